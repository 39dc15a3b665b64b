/- A map from int to bool that the call itself makes, as the list of the numbers that were set: made, asked, written. -/
import Derived.WalkKit
import Derived.Maps.OwnSet
import Derived.Maps.OwnOps
namespace Go.Proofs.Ytapgojgcmlnbgaa
open Go Go.Maps

/-- Block b is a map from int to bool in which just the numbers of S are true; at most n entries. -/
def OwnSet (w : World) (P : Program) (k e : TypeId) (b n : Nat) (S : List Int) : Prop :=
  ∃ D : DataW Unit, w.ownsMap P k (plainElem P e) b n D ∧ IsMap D ∧ ∀ x : Int, D.atKey (.int .i64 x) (.lit (.bool false)) = .lit (.bool (S.contains x))

section
variable {P : Program} {k e : TypeId} {b n : Nat} {S : List Int} {w : World}
theorem OwnSet.lt (h : OwnSet w P k e b n S) : b < w.heap.size := by
  obtain ⟨D, h1, _⟩ := h
  exact h1.lt
theorem OwnSet.made (w : World) (P : Program) (k e : TypeId) : OwnSet (w.alloc (.map #[] 0)) P k e w.heap.size 0 [] :=
  ⟨.map [], World.ownsMap_made w P k _, isMap_empty, fun _ => rfl⟩
theorem OwnSet.mono (h : OwnSet w P k e b n S) {n' : Nat} (hn : n ≤ n') : OwnSet w P k e b n' S := by
  obtain ⟨D, h1, h2⟩ := h
  exact ⟨D, h1.mono hn, h2⟩
theorem OwnSet.kept {w' : World} {row : Option Nat} (h : OwnSet w P k e b n S) (hg : w.grownBy w' row) (hne : some b ≠ row) : OwnSet w' P k e b n S := by
  obtain ⟨D, h1, h2⟩ := h
  exact ⟨D, h1.kept hg hne, h2⟩
theorem OwnSet.alloc (h : OwnSet w P k e b n S) (o : Obj) : OwnSet (w.alloc o) P k e b n S := h.kept (World.grownBy_alloc w o none) (by simp)
theorem OwnSet.setCell (h : OwnSet w P k e b n S) {p : Addr} (hp : b ≠ p.block) (u : Value) : OwnSet (w.setCell p u) P k e b n S := by
  obtain ⟨D, ⟨es, clock, hb, h1⟩, h2⟩ := h
  refine ⟨D, ⟨es, clock, ?_, h1⟩, h2⟩
  have := RowKit.Below.heap_setCell w p u b hp
  rw [this]
  exact hb

theorem OwnSet.look {t : TypeId} (h : OwnSet w P k e b n S) (hk : P.underlying k = some (.int .i64)) (ht : P.underlying t = some (.map k e)) (he : P.underlying e = some .bool) (hz : (zeroValue e).run P w = .ok (.bool false) w)
    (x : Int) (hw : (Lit.int .i64 x).wf = true) : (Instr.lookup t (.map (some b)) (.int .i64 x) false).run P w = .ok (.bool (S.contains x)) w := by
  obtain ⟨D, h1, _, h3⟩ := h
  obtain ⟨v, ps, hrun, hv⟩ := h1.lookup (int_keyed hk) ht hz (plainElem_bool he false) (keyOf_int_mk hk hw)
  rw [h3] at hv
  unfold plainElem at hv
  rw [he] at hv
  cases v <;> simp at hv
  rw [hrun, hv.1]
  simp
theorem OwnSet.put {t : TypeId} (h : OwnSet w P k e b n S) (hk : P.underlying k = some (.int .i64)) (ht : P.underlying t = some (.map k e)) (he : P.underlying e = some .bool) (hn : n < maxLen)
    (x : Int) (hw : (Lit.int .i64 x).wf = true) : ∃ w', (Instr.mapUpdate t (.map (some b)) (.int .i64 x) (.bool true)).run P w = .ok () w' ∧ OwnSet w' P k e b (n + 1) (x :: S) ∧ w.grownBy w' (some b) := by
  obtain ⟨D, h1, h2, h3⟩ := h
  obtain ⟨w', hrun, r1, r2⟩ := h1.update (int_keyed hk) ht hn (keyOf_int_mk hk hw) (plainElem_bool he true)
  refine ⟨w', hrun, ⟨_, r1, h2.put _ _, fun y => ?_⟩, r2⟩
  by_cases hy : y = x
  · subst hy
    rw [atKey_put_same h2 (by simp [WideAt.IsKeyLit])]
    simp
  · rw [atKey_put_other (by intro hh; injection hh with _ hh; exact hy hh), h3]
    simp [hy]
end

theorem wpList_look_set {P : Program} (w : World) {ops : Array Oper} {rest : List Oper} {o : Oper} {a : Act} {Q : Exit → Act → World → Prop}
    (hg : o.guard = none) (m x : Operand) (t : TypeId) (hop : o.op = Op.lookup t m x false)
    (k e : TypeId) (hk : P.underlying k = some (.int .i64)) (ht : P.underlying t = some (.map k e)) (he : P.underlying e = some .bool) (hz : (zeroValue e).run P w = .ok (.bool false) w) (b n : Nat) (S : List Int)
    (hm : a.eval m = .map (some b)) (hown : OwnSet w P k e b n S) (z : Int) (hx : a.eval x = .int .i64 z) (hw : (Lit.int .i64 z).wf = true)
    (hK : wpList P ops Q rest (a.put o.dst (.bool (S.contains z))) w) : wpList P ops Q (o :: rest) a w := by
  refine wpList_plain hg fun K' hK' => ?_
  unfold Oper.wp
  simp [execOp, hop, hm, hx, hown.look hk ht he hz z hw, Result.andThen]
  exact hK' _ _ (by simpa using hK)
theorem wpList_put_set {P : Program} (w : World) {ops : Array Oper} {rest : List Oper} {o : Oper} {a : Act} {Q : Exit → Act → World → Prop}
    (hg : o.guard = none) (m x v : Operand) (t : TypeId) (hop : o.op = Op.mapUpdate t m x v)
    (k e : TypeId) (hk : P.underlying k = some (.int .i64)) (ht : P.underlying t = some (.map k e)) (he : P.underlying e = some .bool) (b n : Nat) (S : List Int)
    (hm : a.eval m = .map (some b)) (hown : OwnSet w P k e b n S) (hn : n < maxLen) (z : Int) (hx : a.eval x = .int .i64 z) (hv : a.eval v = .bool true) (hw : (Lit.int .i64 z).wf = true)
    (hK : ∀ w', OwnSet w' P k e b (n + 1) (z :: S) → w.grownBy w' (some b) → wpList P ops Q rest (a.put o.dst undef) w') : wpList P ops Q (o :: rest) a w := by
  refine wpList_plain hg fun K' hK' => ?_
  obtain ⟨w', hrun, r1, r2⟩ := hown.put hk ht he hn z hw
  unfold Oper.wp
  simp [execOp, hop, hm, hx, hv, hrun, Result.andThen]
  exact hK' _ _ (hK w' r1 r2)
end Go.Proofs.Ytapgojgcmlnbgaa
