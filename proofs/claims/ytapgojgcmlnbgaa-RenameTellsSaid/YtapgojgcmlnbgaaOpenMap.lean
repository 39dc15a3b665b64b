/- How a map of registers reads, handed over by value. -/
import Derived.Test.YtapgojgcmlnbgaaOpenFlat
import Derived.Test.YtapgojgcmlnbgaaOpenBytes
import Derived.Test.YtapgojgcmlnbgaaOpenAcc
import Derived.Test.YtapgojgcmlnbgaaSame
namespace Go.Proofs.Ytapgojgcmlnbgaa
open Go.ChangeShapes Go.WideShapes Go.RowKit Go.Deep
section
variable {H : Type} {enc : TypeId × Value → H} {w : World} {base : Nat} {spare : Nat → Bool} {held : Bool}

theorem fits_ints : ∀ {vs : List Value} {n : Nat}, Fits (List.replicate n (some .i64)) vs → ∃ l : List Int, vs = l.map (Value.int .i64) ∧ l.length = n ∧ ∀ x ∈ l, -9223372036854775808 ≤ x ∧ x ≤ 9223372036854775807
  | [], 0, _ => ⟨[], rfl, rfl, by simp⟩
  | v :: vs, n + 1, ⟨⟨x, hx, hw⟩, h⟩ => by
    obtain ⟨l, h1, h2, h3⟩ := fits_ints h
    refine ⟨x :: l, by simp [hx, h1], by simp [h2], fun y hy => ?_⟩
    rcases List.mem_cons.1 hy with rfl | hy
    · exact bounds_i64 hw
    · exact h3 y hy
  | [], n + 1, h => by cases h
  | v :: vs, 0, h => by cases h
theorem mapTypeCells : Try.prog.cellsOf 50 = 34 := by kernel_rfl
theorem open_map {fuel : Nat} {cs : Array Value} {x : DataW H × List MemPlace} (h : DataW.trod enc Try.prog w base spare held fuel 50 (Value.agg cs).cells.toList = some x) :
    ∃ (m : RMap) (A : Option Addr) (cap : Nat) (parts : List (DataW H)) (d : DataW H), cs = mapCells m.phys m.regs A m.free.length cap ∧ (m.free.length ≤ 17592186044000 → MapIn w m A cap) ∧ x.1 = .agg parts ∧ parts[2]? = some d ∧ (d = .nil ∧ m.free.length = 0 ∨ ∃ es sp, d = .slice es sp ∧ es.length = m.free.length) := by
  obtain ⟨xs, n, _, hx, hcl, hxs, hi⟩ := DataW.trod_struct Try.underlying50 h
  rw [mapTypeCells] at hcl
  have h0 := hi 0 _ rfl
  have h1 := hi 1 _ rfl
  have h2 := hi 2 _ rfl
  have hxl : xs.length = 3 := hxs
  rw [List.getElem?_eq_getElem (by omega)] at h0 h1 h2
  have e0 : Try.prog.cellsOf 3 = 1 := by kernel_rfl
  have e1 : Try.prog.cellsOf 47 = 32 := by kernel_rfl
  have e2 : Try.prog.cellsOf 48 = 1 := by kernel_rfl
  have hcs : (Value.agg cs).cells.toList = cs.toList := rfl
  rw [hcs] at h0 h1 h2 hcl
  replace h0 : DataW.trod enc Try.prog w base spare held n 3 ((cs.toList.drop 0).take (Try.prog.cellsOf 3)) = some xs[0] := h0
  replace h1 : DataW.trod enc Try.prog w base spare held n 47 ((cs.toList.drop 1).take (Try.prog.cellsOf 47)) = some xs[1] := h1
  replace h2 : DataW.trod enc Try.prog w base spare held n 48 ((cs.toList.drop 33).take (Try.prog.cellsOf 48)) = some xs[2] := h2
  rw [e0] at h0
  rw [e1] at h1
  rw [e2] at h2
  obtain ⟨p, hp, _, hpw⟩ := DataW.trod_int Try.underlying3 h0
  obtain ⟨regs, hr1, hr2, hr3⟩ := fits_ints (n := 32) (trod_fits 20 47 regKinds n _ _ (by kernel_rfl) h1)
  have hpb := bounds_i64 hpw
  have shape : ∀ v, (cs.toList.drop 33).take 1 = [v] → cs = (.int .i64 p :: (regs.map (.int .i64) ++ [v])).toArray := by
    intro v hv
    apply Array.toList_inj.1
    have t1 : cs.toList = cs.toList.take 1 ++ ((cs.toList.drop 1).take 32 ++ (cs.toList.drop 33).take 1) := by
      have q1 := List.take_append_drop 1 cs.toList
      have q2 := List.take_append_drop 32 (cs.toList.drop 1)
      have q3 : (cs.toList.drop 33).take 1 = (cs.toList.drop 1).drop 32 := by rw [List.drop_drop, List.take_of_length_le (by rw [List.length_drop, hcl]; omega)]
      rw [q3, q2, q1]
    have hp' : cs.toList.take 1 = [.int .i64 p] := hp
    have hr' : (cs.toList.drop 1).take 32 = regs.map (.int .i64) := hr1
    rw [t1, hp', hr', hv]
    simp
  have hdp : (xs.map (·.1))[2]? = some xs[2].1 := by rw [List.getElem?_map, List.getElem?_eq_getElem (by omega)]; rfl
  have hx1 : x.1 = .agg (xs.map (·.1)) := by rw [hx]
  rcases open_ints Try.underlying48 Try.underlying3 (by kernel_rfl) h2 with ⟨hc, hd⟩ | ⟨ad, len, cap, zs, hc, hb, hl, hm, hz, hd, hcell, hwz⟩
  · refine ⟨⟨p, regs, []⟩, none, 0, _, _, shape _ hc, fun _ => ⟨hpb.1, hpb.2, hr2, by simp, by simp, fun h => absurd rfl h, fun _ => ⟨rfl, rfl⟩, fun x hx => ?_⟩, hx1, hdp, Or.inl ⟨by rw [hd], rfl⟩⟩
    rcases List.mem_append.1 hx with hx | hx
    · exact hr3 x hx
    · cases hx
  · have hlz : len ≤ zs.length := by rw [hz]; split <;> omega
    have hll : (zs.take len).length = len := by simp; omega
    refine ⟨⟨p, regs, zs.take len⟩, some ad, cap, _, _, ?_, fun hfew => ⟨hpb.1, hpb.2, hr2, hfew, by show (zs.take len).length ≤ cap; omega, ?_, fun h => (by cases h), fun x hx => ?_⟩, hx1, hdp, Or.inr ⟨_, _, by rw [hd], by simp [lits]⟩⟩
    · show cs = mapCells p regs (some ad) (zs.take len).length cap
      rw [hll]
      exact shape _ hc
    · intro hne
      have h0' : 0 < len := by
        rcases Nat.eq_zero_or_pos len with h0 | h0
        · subst h0; simp at hne
        · exact h0
      obtain ⟨b, o, s⟩ := ad
      have hc0 := hcell 0 (by omega)
      have hs : s = none := by simpa [Addr.add] using World.cell?_spot hc0
      subst hs
      refine ⟨b, o, rfl, by simpa [Addr.add] using World.block_lt_of_cell? w _ hc0, fun i v hi => ?_⟩
      have hi' : (zs.take len)[i]? = some v := hi
      have hil : i < len := by
        have := (List.getElem?_eq_some_iff.1 hi').1
        omega
      have := hcell i (by omega)
      rw [Addr.add_lit] at this
      rw [this]
      have hv : zs[i]? = some v := by rw [← hi', List.getElem?_take, if_pos hil]
      simp [List.getD, hv]
    · rcases List.mem_append.1 hx with hx | hx
      · exact hr3 x hx
      · exact bounds_i64 (hwz x (List.mem_of_mem_take hx))
end
theorem sized_part {H : Type} {P : Program} {ts : List TypeId} {ds : List (DataW H)} (h : (DataW.weightsEach P ts ds).all (· ≤ reachBytes) = true) {j : Nat} {t : TypeId} {fs : Array Field} {parts : List (DataW H)} (ht : ts[j]? = some t) (hd : ds[j]? = some (.agg parts)) (hu : P.underlying t = some (.struct fs)) :
    (DataW.weightsEach P (fs.toList.map (·.type)) parts).all (· ≤ reachBytes) = true := by
  rw [List.all_eq_true] at h ⊢
  intro n hn
  exact h n (DataW.weights_mem_each ht hd n (by unfold DataW.weights; rw [hu]; exact hn))
end Go.Proofs.Ytapgojgcmlnbgaa
