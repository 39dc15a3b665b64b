/- hart.Does at once; the walk of hart.Apply. -/
import Derived.Test.YtapgojgcmlnbgabKHS900
import Derived.Test.YtapgojgcmlnbgabKHS918
import Derived.Test.YtapgojgcmlnbgabKHS919
import Derived.Test.YtapgojgcmlnbgabKHS920
set_option linter.unusedSimpArgs false
set_option linter.unusedVariables false

namespace Go.Proofs.Ytapgojgcmlnbgab
open Go.RowKit

theorem does_any (i : Ins) (h : Hart) (b o : Nat) (A : Option Addr) (cap : Nat) (m : List Int) (w : World) (hh : h.Wf) (ha0 : 0 ≤ i.rs1) (ha1 : i.rs1 ≤ 31) (hb0 : 0 ≤ i.rs2) (hb1 : i.rs2 ≤ 31) (hH : HartAt w b o h) (hl : m.length ≤ 9223372036854775807) (hb : Bytes m) (hA : IntsAt w w.heap.size .u8 A m) :
    Calls Try.prog 82 #[.agg i.cells, .pointer (some ⟨b, o, none⟩), .slice A m.length cap] w fun e w' => e = .returned (.agg (doesP i h m).cells) ∧ Below w.heap.size w w' := by
  by_cases cA : 11 ≤ i.op ∧ i.op ≤ 15
  · exact does_load i h b o A cap m w hh ha0 ha1 hb0 hb1 hH hl hb hA cA
  by_cases cB : 16 ≤ i.op ∧ i.op ≤ 18
  · exact does_store i h b o A cap m w hh ha0 ha1 hb0 hb1 hH hl hb hA cA cB
  by_cases cS : i.op = 48 ∨ i.op = 47 ∨ i.op = 46
  · exact does_sys i h b o A cap m w hh ha0 ha1 hb0 hb1 hH hl hb hA cA cB cS
  exact does_else i h b o A cap m w hh ha0 ha1 hb0 hb1 hH hl hb hA cA cB (by omega) (by omega) (by omega)

theorem grownBy_refl (w : World) (row : Option Nat) : w.grownBy w row := ⟨rfl, rfl, rfl, Nat.le_refl _, fun _ _ _ => rfl⟩
theorem grownBy_any {w w' : World} (h : w.grownBy w' none) (row : Option Nat) : w.grownBy w' row := ⟨h.os, h.tape, h.output, h.size, fun k hk _ => h.block k hk (by simp)⟩
theorem below_any {w w' : World} (h : Below w.heap.size w w') (row : Option Nat) : w.grownBy w' row := grownBy_any (below_grownBy h) row
theorem grown_set (w : World) (p : Addr) (u : Value) : w.grownBy (w.setCell p u) (some p.block) :=
  ⟨rfl, rfl, rfl, by simp, fun k _ hne => Below.heap_setCell w p u k (fun e => hne (by rw [e]))⟩
/-- The cells of a hart at ho, behind an instruction. -/
def appC (hcs : Array Value) (ho : Nat) (c : Com) : Array Value :=
  let l := ((hcs.setIfInBounds (ho + 32) (.int .u32 c.next)).setIfInBounds (ho + 33) (.int .i64 c.state)).setIfInBounds (ho + 34) (.int .i64 c.cause)
  if 0 < c.rd then l.setIfInBounds (ho + c.rd.toNat) (.int .u32 c.value) else l
theorem appC_size (hcs : Array Value) (ho : Nat) (c : Com) : (appC hcs ho c).size = hcs.size := by unfold appC; split <;> simp
theorem appC_hart (h : Hart) (c : Com) (hl : h.regs.length = 32) (h0 : 0 ≤ c.rd) (h1 : c.rd ≤ 31) : appC h.cells 0 c = (applyH c h).cells := by
  obtain ⟨n, hn⟩ := Int.eq_ofNat_of_zero_le h0
  obtain ⟨regs, pc, st, ca⟩ := h
  unfold appC applyH Hart.cells
  dsimp only at *
  rw [hn]
  by_cases hp : (0 : Int) < (n : Int)
  · rw [if_pos hp, if_pos hp]
    simp [List.setIfInBounds_toArray, List.set_append, hl, List.map_set]
    intro hx
    omega
  · rw [if_neg hp, if_neg hp]
    simp [List.setIfInBounds_toArray, List.set_append, hl]
end Go.Proofs.Ytapgojgcmlnbgab
