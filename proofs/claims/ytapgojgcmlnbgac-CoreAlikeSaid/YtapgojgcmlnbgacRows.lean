/-
  No cell of these rows narrows 'for every input' (looked for: loops, veiled, ifaces, maps, wideKeys, modest, calm, conditions, laid).
  DERIVED. THE GIVEN ROWS OF THIS SEAT. 2 by the template 'for every input the law returns true; each argument reads behind the call as it read before'; 0 by the template 'total and deterministic' (their statements: YtapgojgcmlnbgacTotals.lean).
  GIVEN WITH THE SEED: the statements are not yours to turn. If you find one false, say at which input.
  Laid BY PROGRAM, IN A SANDBOX (cutbox-rows.mjs): the forced cells as the released guide's own fill.sh prints them over the translation 92eed995faed1e6e… (all of the seat's roots in one cut). By AI agents, Wed Nov 11 2026. No macro, syntax, notation, axiom, sorry.
-/
import Derived.Test.YtapgojgcmlnbgacChecked
import GoSem.Claim
import GoSem.ClaimJoined
import GoSem.ClaimMapViews
import Derived.JoinedTies
import Derived.KernelRfl
namespace Go.Proofs.Ytapgojgcmlnbgac
/- THE CELL 'sum', in the pinned program and in every row, IS THE sha256 OF THE DUMP (.gsa) THAT YtapgojgcmlnbgacProg.lean LOADS. Nothing in Lean hashes anything: it is a label: what it is worth is what the hold of that sum in a sandbox is worth. -/
noncomputable def Try.pinned : Pinned := { name := "ytapgojgcmlnbgac", sum := "92eed995faed1e6e62de3d3d6d18e7b46be3dc2bb9fbaaef3119af46e42d1b32", checked := Try.checked }
namespace Rows
def none {H : Type} : Left H := { results := [], args := [] }

/-- 'humpyardlaw.CoreGoes': WHATEVER THE INPUT: true; the input reads as it did. -/
def coreGoesSpec : ChangeSpec := { name := "coreGoes", fn := fun _ => fun
  | [d1, d2, d3, d4, d5] => { results := [.lit (.bool true)], args := [d1, d2, d3, d4, d5] }
  | _ => none }
def coreGoesRow : OpenClaim := { program := "ytapgojgcmlnbgac", sum := "92eed995faed1e6e62de3d3d6d18e7b46be3dc2bb9fbaaef3119af46e42d1b32", func := "humpyard/humpyardlaw.CoreGoes", spec := "coreGoes", unfollowed := true, recurses := true, apart := false }
def CoreGoesSaid : Prop := coreGoesRow.holds Try.pinned (OpenSpec.ofChange coreGoesSpec)

/-- ITS FALSE NEIGHBOUR: 'it returns false'. Refute it at one input. -/
def coreGoesWrong : ChangeSpec := { name := "coreGoes", fn := fun _ => fun
  | [d1, d2, d3, d4, d5] => { results := [.lit (.bool false)], args := [d1, d2, d3, d4, d5] }
  | _ => none }
def CoreGoesWrongFalsely : Prop := coreGoesRow.holds Try.pinned (OpenSpec.ofChange coreGoesWrong)

/-- 'humpyardkeep.CoreAlike': WHATEVER THE INPUT: true; the input reads as it did. -/
def coreAlikeSpec : ChangeSpec := { name := "coreAlike", fn := fun _ => fun
  | [d1, d2, d3, d4, d5, d6, d7, d8] => { results := [.lit (.bool true)], args := [d1, d2, d3, d4, d5, d6, d7, d8] }
  | _ => none }
def coreAlikeRow : OpenClaim := { program := "ytapgojgcmlnbgac", sum := "92eed995faed1e6e62de3d3d6d18e7b46be3dc2bb9fbaaef3119af46e42d1b32", func := "humpyard/humpyardkeep.CoreAlike", spec := "coreAlike", unfollowed := true, recurses := true, apart := false }
def CoreAlikeSaid : Prop := coreAlikeRow.holds Try.pinned (OpenSpec.ofChange coreAlikeSpec)

/-- ITS FALSE NEIGHBOUR: 'it returns false'. Refute it at one input. -/
def coreAlikeWrong : ChangeSpec := { name := "coreAlike", fn := fun _ => fun
  | [d1, d2, d3, d4, d5, d6, d7, d8] => { results := [.lit (.bool false)], args := [d1, d2, d3, d4, d5, d6, d7, d8] }
  | _ => none }
def CoreAlikeWrongFalsely : Prop := coreAlikeRow.holds Try.pinned (OpenSpec.ofChange coreAlikeWrong)

/- THE SECOND FORM. 'bulk': how many values and letters a reading holds, each counted each time it is reached (what is shared counts as often as it is met; a slice's spare places count too). A statement '..UptoSaid' is the law's where the arguments, and the package variables that the reading takes, are together of bulk at most 1048576: NARROWER than '..Said'. Prove '..Said' where nothing that the law and all that it calls make is longer than what came in: it says more and counts as full. Else prove '..UptoSaid'. A law counts once. -/
mutual
def uptoBulk {H : Type} : DataW H → Nat
  | .lit (.string bytes) => bytes.length + 1
  | .lit _ => 1
  | .nil => 1
  | .ptr d => uptoBulk d + 1
  | .slice elems spare => uptoBulkAll elems + uptoBulkAll spare + 1
  | .agg parts => uptoBulkAll parts + 1
  | .iface _ d => uptoBulk d + 1
  | .map entries => uptoBulkEntries entries + 1
  | .held _ => 1
def uptoBulkAll {H : Type} : List (DataW H) → Nat
  | [] => 0
  | d :: r => uptoBulk d + uptoBulkAll r
def uptoBulkEntries {H : Type} : List (Lit × DataW H) → Nat
  | [] => 0
  | x :: r => uptoBulkEntry x + uptoBulkEntries r
def uptoBulkEntry {H : Type} : Lit × DataW H → Nat
  | (.string bytes, d) => bytes.length + uptoBulk d + 1
  | (_, d) => uptoBulk d + 1
 end
def uptoSmall : (H : Type) → List (DataW H) → Bool := fun _ ds => decide (uptoBulkAll ds ≤ 1048576)
def OpenSpec.upto (s : _root_.Go.ChangeSpec) : _root_.Go.OpenSpec := { _root_.Go.OpenSpec.ofChange s with cond := some uptoSmall }

/-- 'humpyardlaw.CoreGoes', WHERE WHAT IT READS IS OF BULK AT MOST 1048576: true; the input reads as it did. -/
def coreGoesUptoRow : OpenClaim := { program := "ytapgojgcmlnbgac", sum := "92eed995faed1e6e62de3d3d6d18e7b46be3dc2bb9fbaaef3119af46e42d1b32", func := "humpyard/humpyardlaw.CoreGoes", spec := "coreGoes", unfollowed := true, recurses := true, apart := false, narrowed := true }
def CoreGoesUptoSaid : Prop := coreGoesUptoRow.holds Try.pinned (OpenSpec.upto coreGoesSpec)

/-- 'humpyardkeep.CoreAlike', WHERE WHAT IT READS IS OF BULK AT MOST 1048576: true; the input reads as it did. -/
def coreAlikeUptoRow : OpenClaim := { program := "ytapgojgcmlnbgac", sum := "92eed995faed1e6e62de3d3d6d18e7b46be3dc2bb9fbaaef3119af46e42d1b32", func := "humpyard/humpyardkeep.CoreAlike", spec := "coreAlike", unfollowed := true, recurses := true, apart := false, narrowed := true }
def CoreAlikeUptoSaid : Prop := coreAlikeUptoRow.holds Try.pinned (OpenSpec.upto coreAlikeSpec)

end Rows
end Go.Proofs.Ytapgojgcmlnbgac
