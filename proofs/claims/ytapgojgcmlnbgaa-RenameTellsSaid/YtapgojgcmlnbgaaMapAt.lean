/- Maps of registers in blocks. -/
import Derived.Test.YtapgojgcmlnbgaaRenameUndoes
import Derived.Test.YtapgojgcmlnbgaaMemPlain
namespace Go.Proofs.Ytapgojgcmlnbgaa
open Go.RowKit

theorem IntsAt.grown' {w w' : World} {B : Nat} {k : IntKind} {A : Option Addr} {l : List Int} {g : Nat} (h : IntsAt w B k A l) (hB : B ≤ w.heap.size) (hg : w.grownBy w' (some g)) (hne : l ≠ [] → ∀ ad, A = some ad → ad.block ≠ g) : IntsAt w' B k A l := fun hl => by
  obtain ⟨b, o, hA, hb, hc⟩ := h hl
  have hbg := hne hl _ hA
  refine ⟨b, o, hA, hb, fun i v hi => ?_⟩
  rw [World.cell?_of_block (hg.block b (Nat.lt_of_lt_of_le hb hB) (by simp; exact hbg))]
  exact hc i v hi
/-- A map in a block of its own: its free ones lie elsewhere. -/
def MapAt (w : World) (g : Nat) (m : RMap) : Prop := ∃ A cap, Blk w g 50 (mapCells m.phys m.regs A m.free.length cap) ∧ MapIn w m A cap
theorem MapAt.ext {w w' : World} {g : Nat} {m : RMap} (h : MapAt w g m) (hb : Below w.heap.size w w') : MapAt w' g m := by
  obtain ⟨A, cap, h1, h2⟩ := h
  exact ⟨A, cap, h1.ext hb, h2.ext hb⟩
theorem MapAt.lt {w : World} {g : Nat} {m : RMap} (h : MapAt w g m) : g < w.heap.size := by
  obtain ⟨A, cap, h1, _⟩ := h
  exact h1.lt
theorem wpList_load_mapAt {ops : Array Oper} {rest : List Oper} {o : Oper} {a : Act} {w : World} {Q : Exit → Act → World → Prop} (hgd : o.guard = none) (x : Operand) (ho : o.op = .load 50 x) (g : Nat) (m : RMap) (h : MapAt w g m) (hx : a.eval x = .pointer (some ⟨g, 0, none⟩))
    (hk : ∀ cs, MapV w m (.agg cs) → wpList Try.prog ops Q rest (a.put o.dst (.agg cs)) w) : wpList Try.prog ops Q (o :: rest) a w := by
  obtain ⟨A, cap, h1, h2⟩ := h
  exact wpList_load_all hgd 50 x ho g hx 50 _ _ h1 Try.underlying50 rfl (map_info h2.len) (hk _ ⟨A, cap, rfl, h2⟩)
theorem wp_load_mapAt {K : Act → World → Prop} {o : Oper} {a : Act} {w : World} {Q : Exit → Act → World → Prop} (x : Operand) (ho : o.op = .load 50 x) (g : Nat) (m : RMap) (h : MapAt w g m) (hx : a.eval x = .pointer (some ⟨g, 0, none⟩))
    (hk : ∀ cs, MapV w m (.agg cs) → K (a.put o.dst (.agg cs)) w) : o.wp Try.prog a w K Q := by
  obtain ⟨A, cap, h1, h2⟩ := h
  exact wp_load_all 50 x ho g hx 50 _ _ h1 Try.underlying50 rfl (map_info h2.len) (hk _ ⟨A, cap, rfl, h2⟩)
/-- A map laid into a block, its free ones lying behind that. -/
theorem wpList_store_map {ops : Array Oper} {rest : List Oper} {o : Oper} {a : Act} {w : World} {Q : Exit → Act → World → Prop} {cs0 : Array Value} (hgd : o.guard = none) (x y : Operand) (ho : o.op = .store 50 x y) (g : Nat) (m : RMap) (cs : Array Value) (hB : Blk w g 50 cs0) (hs0 : cs0.size = 34)
    (h : ∃ A cap, (Value.agg cs) = .agg (mapCells m.phys m.regs A m.free.length cap) ∧ MapIn w m A cap ∧ (m.free ≠ [] → ∀ ad, A = some ad → ad.block ≠ g)) (hx : a.eval x = .pointer (some ⟨g, 0, none⟩)) (hy : a.eval y = .agg cs)
    (hk : ∀ w', MapAt w' g m → w.grownBy w' (some g) → wpList Try.prog ops Q rest (a.put o.dst undef) w') : wpList Try.prog ops Q (o :: rest) a w := by
  obtain ⟨A, cap, h1, h2, h3⟩ := h
  injection h1 with h1
  subst h1
  refine wpList_store_all hgd 50 x y ho g _ hx hy 50 cs0 hB (map_info h2.len) (by rw [mapCells_size _ _ _ _ _ h2.len, hs0]) (map_one _ _ _ _ _) fun w' hB' hg => hk w' ⟨A, cap, hB', h2.p0, h2.p1, h2.len, h2.few, h2.room, ?_, h2.nil, h2.wf⟩ hg
  exact (h2.free.grown' (Nat.le_refl _) hg h3).mono hg.size
theorem mapV_new {w : World} {m : RMap} {cs : Array Value} {o : Obj} (h : MapV w m (.agg cs)) : ∃ A cap, (Value.agg cs) = .agg (mapCells m.phys m.regs A m.free.length cap) ∧ MapIn (w.alloc o) m A cap ∧ (m.free ≠ [] → ∀ ad, A = some ad → ad.block ≠ w.heap.size) := by
  obtain ⟨A, cap, h1, h2⟩ := h
  refine ⟨A, cap, h1, h2.ext ((Below.refl _ w).alloc (Nat.le_refl _) o), fun hf ad e => ?_⟩
  obtain ⟨b, o', e', hb, _⟩ := h2.free hf
  rw [e] at e'
  cases e'
  exact Nat.ne_of_lt hb
theorem mapF_old {w : World} {B g : Nat} {m : RMap} {cs : Array Value} (h : MapF w B m (.agg cs)) (hg : g < B) : ∃ A cap, (Value.agg cs) = .agg (mapCells m.phys m.regs A m.free.length cap) ∧ MapIn w m A cap ∧ (m.free ≠ [] → ∀ ad, A = some ad → ad.block ≠ g) := by
  obtain ⟨A, cap, h1, h2, h3⟩ := h
  exact ⟨A, cap, h1, h2, fun _ ad e => by have := h3 ad e; omega⟩
theorem MapF.ext {w w' : World} {B : Nat} {m : RMap} {v : Value} (h : MapF w B m v) (hb : Below w.heap.size w w') : MapF w' B m v := by
  obtain ⟨A, cap, h1, h2, h3⟩ := h
  exact ⟨A, cap, h1, h2.ext hb, h3⟩
theorem MapAt.cells {w : World} {g : Nat} {m : RMap} (h : MapAt w g m) : ∃ A cap, w.cell? ⟨g, 33, none⟩ = some (.slice A m.free.length cap) ∧ (∀ i : Nat, i < 32 → w.cell? ⟨g, 1 + i, none⟩ = some (.int .i64 (m.regs.getD i 0))) ∧
    (m.free ≠ [] → ∃ b o, A = some ⟨b, o, none⟩ ∧ b < w.heap.size ∧ w.cell? ⟨b, o, none⟩ = some (.int .i64 (m.free.getD 0 0))) := by
  obtain ⟨A, cap, h1, h2⟩ := h
  refine ⟨A, cap, ?_, fun i hi => ?_, fun hf => ?_⟩
  · rw [h1.cell, mapCells_free _ _ _ _ _ h2.len]
  · rw [h1.cell, mapCells_reg _ _ _ _ _ (by rw [h2.len]; exact hi)]
  · obtain ⟨b, o, hA, hb, hc⟩ := h2.free hf
    refine ⟨b, o, hA, hb, ?_⟩
    cases hff : m.free with
    | nil => exact absurd hff hf
    | cons p f =>
      have := hc 0 p (by rw [hff]; rfl)
      simpa using this
theorem MapF.agg {w : World} {B : Nat} {m : RMap} {v : Value} (h : MapF w B m v) : ∃ cs, v = .agg cs := by
  obtain ⟨A, cap, h1, _⟩ := h
  exact ⟨_, h1⟩
theorem MapF.facts {w : World} {B : Nat} {m : RMap} {cs : Array Value} (h : MapF w B m (.agg cs)) : cs.size = 34 ∧ cs.all (·.oneCell') = true ∧ (Try.prog.info? 50).map (·.size) = some cs.size ∧ ∀ i : Nat, i < 32 → cs[1 + i]? = some (.int .i64 (m.regs.getD i 0)) := by
  obtain ⟨A, cap, h1, h2, _⟩ := h
  injection h1 with h1
  subst h1
  exact ⟨mapCells_size _ _ _ _ _ h2.len, map_one _ _ _ _ _, map_info h2.len, fun i hi => mapCells_reg _ _ _ _ _ (by rw [h2.len]; exact hi)⟩
/-- What a taking and a giving comes to, spelt out. -/
theorem take_is {phys p : Int} {regs f : List Int} {k : Nat} (hl : regs.length = 32) (hm : RMap.may ⟨phys, regs, p :: f⟩ = true) (h1 : 1 ≤ k) (h2 : k ≤ 31) :
    takeP ⟨phys, regs, p :: f⟩ (k : Int) = some (⟨phys, regs.set k p, f⟩, p, regs.getD k 0) ∧ RMap.may ⟨phys, regs.set k p, f⟩ = true ∧
    giveP ⟨phys, regs.set k p, f⟩ (regs.getD k 0) = some ⟨phys, regs.set k p, f ++ [regs.getD k 0]⟩ ∧ RMap.may ⟨phys, regs.set k p, f ++ [regs.getD k 0]⟩ = true := by
  obtain ⟨m1, m2, m3⟩ := may_take (phys := phys) (p := p) (regs := regs) (rest := f) (rd := k) (by omega) hm
  have hot : otherP ⟨phys, regs.set k p, f⟩ (regs.getD k 0) = true := by
    unfold otherP RMap.may RMap.all
    simp only
    rw [m1]
    simp only [Bool.true_and, Bool.and_eq_true, decide_eq_true_eq, Bool.not_eq_true']
    exact ⟨m2, decide_eq_false m3⟩
  refine ⟨?_, m1, ?_, may_give m1 m2 m3⟩
  · unfold takeP
    simp only
    rw [if_pos ⟨hm, by omega, by omega⟩]
    rfl
  · unfold giveP
    rw [if_pos hot]
theorem take_not {m : RMap} {k : Int} (h : k = 0 ∨ m.free = []) : takeP m k = none := by
  unfold takeP
  cases hf : m.free with
  | nil => rfl
  | cons p f =>
    simp only
    rw [if_neg]
    rintro ⟨_, h1, _⟩
    rcases h with h | h
    · omega
    · rw [hf] at h; cases h
end Go.Proofs.Ytapgojgcmlnbgaa
