/-
  No cell of these rows narrows 'for every input' (looked for: loops, veiled, ifaces, maps, wideKeys, modest, calm, conditions, laid).
  DERIVED. THE GIVEN ROWS OF THIS SEAT. 10 by the template 'for every input the law returns true; each argument reads behind the call as it read before'; 0 by the template 'total and deterministic' (their statements: YtapgojgcmlnbgaaTotals.lean).
  GIVEN WITH THE SEED: the statements are not yours to turn. If you find one false, say at which input.
  Laid BY PROGRAM, IN A SANDBOX (cutbox-rows.mjs): the forced cells as the released guide's own fill.sh prints them over the translation f0d5589438a2e2f5… (all of the seat's roots in one cut). By AI agents, Wed Nov 11 2026. No macro, syntax, notation, axiom, sorry.
-/
import Derived.Test.YtapgojgcmlnbgaaChecked
import GoSem.Claim
import GoSem.ClaimJoined
import GoSem.ClaimMapViews
import Derived.JoinedTies
import Derived.KernelRfl
namespace Go.Proofs.Ytapgojgcmlnbgaa
/- THE CELL 'sum', in the pinned program and in every row, IS THE sha256 OF THE DUMP (.gsa) THAT YtapgojgcmlnbgaaProg.lean LOADS. Nothing in Lean hashes anything: it is a label: what it is worth is what the hold of that sum in a sandbox is worth. -/
noncomputable def Try.pinned : Pinned := { name := "ytapgojgcmlnbgaa", sum := "f0d5589438a2e2f588f6e7aeac343c00f20c881069260be0561f8025b5f011f0", checked := Try.checked }
namespace Rows
def none {H : Type} : Left H := { results := [], args := [] }

/-- 'humpyardlaw.OrderWrongs': WHATEVER THE INPUT: true; the input reads as it did. -/
def orderWrongsSpec : ChangeSpec := { name := "orderWrongs", fn := fun _ => fun
  | [d1, d2] => { results := [.lit (.bool true)], args := [d1, d2] }
  | _ => none }
def orderWrongsRow : OpenClaim := { program := "ytapgojgcmlnbgaa", sum := "f0d5589438a2e2f588f6e7aeac343c00f20c881069260be0561f8025b5f011f0", func := "humpyard/humpyardlaw.OrderWrongs", spec := "orderWrongs", apart := false }
def OrderWrongsSaid : Prop := orderWrongsRow.holds Try.pinned (OpenSpec.ofChange orderWrongsSpec)

/-- ITS FALSE NEIGHBOUR: 'it returns false'. Refute it at one input. -/
def orderWrongsWrong : ChangeSpec := { name := "orderWrongs", fn := fun _ => fun
  | [d1, d2] => { results := [.lit (.bool false)], args := [d1, d2] }
  | _ => none }
def OrderWrongsWrongFalsely : Prop := orderWrongsRow.holds Try.pinned (OpenSpec.ofChange orderWrongsWrong)

/-- 'humpyardlaw.OrderSees': WHATEVER THE INPUT: true; the input reads as it did. -/
def orderSeesSpec : ChangeSpec := { name := "orderSees", fn := fun _ => fun
  | [d1, d2, d3, d4, d5] => { results := [.lit (.bool true)], args := [d1, d2, d3, d4, d5] }
  | _ => none }
def orderSeesRow : OpenClaim := { program := "ytapgojgcmlnbgaa", sum := "f0d5589438a2e2f588f6e7aeac343c00f20c881069260be0561f8025b5f011f0", func := "humpyard/humpyardlaw.OrderSees", spec := "orderSees", apart := false }
def OrderSeesSaid : Prop := orderSeesRow.holds Try.pinned (OpenSpec.ofChange orderSeesSpec)

/-- ITS FALSE NEIGHBOUR: 'it returns false'. Refute it at one input. -/
def orderSeesWrong : ChangeSpec := { name := "orderSees", fn := fun _ => fun
  | [d1, d2, d3, d4, d5] => { results := [.lit (.bool false)], args := [d1, d2, d3, d4, d5] }
  | _ => none }
def OrderSeesWrongFalsely : Prop := orderSeesRow.holds Try.pinned (OpenSpec.ofChange orderSeesWrong)

/-- 'humpyardlaw.GuessTells': WHATEVER THE INPUT: true; the input reads as it did. -/
def guessTellsSpec : ChangeSpec := { name := "guessTells", fn := fun _ => fun
  | [d1, d2, d3, d4] => { results := [.lit (.bool true)], args := [d1, d2, d3, d4] }
  | _ => none }
def guessTellsRow : OpenClaim := { program := "ytapgojgcmlnbgaa", sum := "f0d5589438a2e2f588f6e7aeac343c00f20c881069260be0561f8025b5f011f0", func := "humpyard/humpyardlaw.GuessTells", spec := "guessTells", apart := false }
def GuessTellsSaid : Prop := guessTellsRow.holds Try.pinned (OpenSpec.ofChange guessTellsSpec)

/-- ITS FALSE NEIGHBOUR: 'it returns false'. Refute it at one input. -/
def guessTellsWrong : ChangeSpec := { name := "guessTells", fn := fun _ => fun
  | [d1, d2, d3, d4] => { results := [.lit (.bool false)], args := [d1, d2, d3, d4] }
  | _ => none }
def GuessTellsWrongFalsely : Prop := guessTellsRow.holds Try.pinned (OpenSpec.ofChange guessTellsWrong)

/-- 'humpyardkeep.GuessLearns': WHATEVER THE INPUT: true; the input reads as it did. -/
def guessLearnsSpec : ChangeSpec := { name := "guessLearns", fn := fun _ => fun
  | [d1, d2, d3, d4] => { results := [.lit (.bool true)], args := [d1, d2, d3, d4] }
  | _ => none }
def guessLearnsRow : OpenClaim := { program := "ytapgojgcmlnbgaa", sum := "f0d5589438a2e2f588f6e7aeac343c00f20c881069260be0561f8025b5f011f0", func := "humpyard/humpyardkeep.GuessLearns", spec := "guessLearns", apart := false }
def GuessLearnsSaid : Prop := guessLearnsRow.holds Try.pinned (OpenSpec.ofChange guessLearnsSpec)

/-- ITS FALSE NEIGHBOUR: 'it returns false'. Refute it at one input. -/
def guessLearnsWrong : ChangeSpec := { name := "guessLearns", fn := fun _ => fun
  | [d1, d2, d3, d4] => { results := [.lit (.bool false)], args := [d1, d2, d3, d4] }
  | _ => none }
def GuessLearnsWrongFalsely : Prop := guessLearnsRow.holds Try.pinned (OpenSpec.ofChange guessLearnsWrong)

/-- 'humpyardkeep.RenameKeeps': WHATEVER THE INPUT: true; the input reads as it did. -/
def renameKeepsSpec : ChangeSpec := { name := "renameKeeps", fn := fun _ => fun
  | [d1, d2] => { results := [.lit (.bool true)], args := [d1, d2] }
  | _ => none }
def renameKeepsRow : OpenClaim := { program := "ytapgojgcmlnbgaa", sum := "f0d5589438a2e2f588f6e7aeac343c00f20c881069260be0561f8025b5f011f0", func := "humpyard/humpyardkeep.RenameKeeps", spec := "renameKeeps", apart := false }
def RenameKeepsSaid : Prop := renameKeepsRow.holds Try.pinned (OpenSpec.ofChange renameKeepsSpec)

/-- ITS FALSE NEIGHBOUR: 'it returns false'. Refute it at one input. -/
def renameKeepsWrong : ChangeSpec := { name := "renameKeeps", fn := fun _ => fun
  | [d1, d2] => { results := [.lit (.bool false)], args := [d1, d2] }
  | _ => none }
def RenameKeepsWrongFalsely : Prop := renameKeepsRow.holds Try.pinned (OpenSpec.ofChange renameKeepsWrong)

/-- 'humpyardkeep.RenameUndoes': WHATEVER THE INPUT: true; the input reads as it did. -/
def renameUndoesSpec : ChangeSpec := { name := "renameUndoes", fn := fun _ => fun
  | [d1, d2] => { results := [.lit (.bool true)], args := [d1, d2] }
  | _ => none }
def renameUndoesRow : OpenClaim := { program := "ytapgojgcmlnbgaa", sum := "f0d5589438a2e2f588f6e7aeac343c00f20c881069260be0561f8025b5f011f0", func := "humpyard/humpyardkeep.RenameUndoes", spec := "renameUndoes", apart := false }
def RenameUndoesSaid : Prop := renameUndoesRow.holds Try.pinned (OpenSpec.ofChange renameUndoesSpec)

/-- ITS FALSE NEIGHBOUR: 'it returns false'. Refute it at one input. -/
def renameUndoesWrong : ChangeSpec := { name := "renameUndoes", fn := fun _ => fun
  | [d1, d2] => { results := [.lit (.bool false)], args := [d1, d2] }
  | _ => none }
def RenameUndoesWrongFalsely : Prop := renameUndoesRow.holds Try.pinned (OpenSpec.ofChange renameUndoesWrong)

/-- 'humpyardlaw.MemTells': WHATEVER THE INPUT: true; the input reads as it did. -/
def memTellsSpec : ChangeSpec := { name := "memTells", fn := fun _ => fun
  | [d1, d2, d3, d4] => { results := [.lit (.bool true)], args := [d1, d2, d3, d4] }
  | _ => none }
def memTellsRow : OpenClaim := { program := "ytapgojgcmlnbgaa", sum := "f0d5589438a2e2f588f6e7aeac343c00f20c881069260be0561f8025b5f011f0", func := "humpyard/humpyardlaw.MemTells", spec := "memTells", apart := false }
def MemTellsSaid : Prop := memTellsRow.holds Try.pinned (OpenSpec.ofChange memTellsSpec)

/-- ITS FALSE NEIGHBOUR: 'it returns false'. Refute it at one input. -/
def memTellsWrong : ChangeSpec := { name := "memTells", fn := fun _ => fun
  | [d1, d2, d3, d4] => { results := [.lit (.bool false)], args := [d1, d2, d3, d4] }
  | _ => none }
def MemTellsWrongFalsely : Prop := memTellsRow.holds Try.pinned (OpenSpec.ofChange memTellsWrong)

/-- 'humpyardkeep.MemBack': WHATEVER THE INPUT: true; the input reads as it did. -/
def memBackSpec : ChangeSpec := { name := "memBack", fn := fun _ => fun
  | [d1, d2, d3, d4] => { results := [.lit (.bool true)], args := [d1, d2, d3, d4] }
  | _ => none }
def memBackRow : OpenClaim := { program := "ytapgojgcmlnbgaa", sum := "f0d5589438a2e2f588f6e7aeac343c00f20c881069260be0561f8025b5f011f0", func := "humpyard/humpyardkeep.MemBack", spec := "memBack", apart := false }
def MemBackSaid : Prop := memBackRow.holds Try.pinned (OpenSpec.ofChange memBackSpec)

/-- ITS FALSE NEIGHBOUR: 'it returns false'. Refute it at one input. -/
def memBackWrong : ChangeSpec := { name := "memBack", fn := fun _ => fun
  | [d1, d2, d3, d4] => { results := [.lit (.bool false)], args := [d1, d2, d3, d4] }
  | _ => none }
def MemBackWrongFalsely : Prop := memBackRow.holds Try.pinned (OpenSpec.ofChange memBackWrong)

/-- 'humpyardkeep.OrderPlain': WHATEVER THE INPUT: true; the input reads as it did. -/
def orderPlainSpec : ChangeSpec := { name := "orderPlain", fn := fun _ => fun
  | [d1, d2, d3] => { results := [.lit (.bool true)], args := [d1, d2, d3] }
  | _ => none }
def orderPlainRow : OpenClaim := { program := "ytapgojgcmlnbgaa", sum := "f0d5589438a2e2f588f6e7aeac343c00f20c881069260be0561f8025b5f011f0", func := "humpyard/humpyardkeep.OrderPlain", spec := "orderPlain", apart := false }
def OrderPlainSaid : Prop := orderPlainRow.holds Try.pinned (OpenSpec.ofChange orderPlainSpec)

/-- ITS FALSE NEIGHBOUR: 'it returns false'. Refute it at one input. -/
def orderPlainWrong : ChangeSpec := { name := "orderPlain", fn := fun _ => fun
  | [d1, d2, d3] => { results := [.lit (.bool false)], args := [d1, d2, d3] }
  | _ => none }
def OrderPlainWrongFalsely : Prop := orderPlainRow.holds Try.pinned (OpenSpec.ofChange orderPlainWrong)

/-- 'humpyardlaw.RenameTells': WHATEVER THE INPUT: true; the input reads as it did. -/
def renameTellsSpec : ChangeSpec := { name := "renameTells", fn := fun _ => fun
  | [d1, d2, d3, d4] => { results := [.lit (.bool true)], args := [d1, d2, d3, d4] }
  | _ => none }
def renameTellsRow : OpenClaim := { program := "ytapgojgcmlnbgaa", sum := "f0d5589438a2e2f588f6e7aeac343c00f20c881069260be0561f8025b5f011f0", func := "humpyard/humpyardlaw.RenameTells", spec := "renameTells", apart := false }
def RenameTellsSaid : Prop := renameTellsRow.holds Try.pinned (OpenSpec.ofChange renameTellsSpec)

/-- ITS FALSE NEIGHBOUR: 'it returns false'. Refute it at one input. -/
def renameTellsWrong : ChangeSpec := { name := "renameTells", fn := fun _ => fun
  | [d1, d2, d3, d4] => { results := [.lit (.bool false)], args := [d1, d2, d3, d4] }
  | _ => none }
def RenameTellsWrongFalsely : Prop := renameTellsRow.holds Try.pinned (OpenSpec.ofChange renameTellsWrong)

/- THE SECOND FORM. 'bulk': how many values and letters a reading holds, each counted each time it is reached (what is shared counts as often as it is met; a slice's spare places count too). A statement '..UptoSaid' is the law's where the arguments, and the package variables that the reading takes, are together of bulk at most 1048576: NARROWER than '..Said'. Prove '..Said' where nothing that the law and all that it calls make is longer than what came in: it says more and counts as full. Else prove '..UptoSaid'. A law counts once. -/
mutual
def uptoBulk {H : Type} : DataW H → Nat
  | .lit (.string bytes) => bytes.length + 1
  | .lit _ => 1
  | .nil => 1
  | .ptr d => uptoBulk d + 1
  | .slice elems spare => uptoBulkAll elems + uptoBulkAll spare + 1
  | .agg parts => uptoBulkAll parts + 1
  | .iface _ d => uptoBulk d + 1
  | .map entries => uptoBulkEntries entries + 1
  | .held _ => 1
def uptoBulkAll {H : Type} : List (DataW H) → Nat
  | [] => 0
  | d :: r => uptoBulk d + uptoBulkAll r
def uptoBulkEntries {H : Type} : List (Lit × DataW H) → Nat
  | [] => 0
  | x :: r => uptoBulkEntry x + uptoBulkEntries r
def uptoBulkEntry {H : Type} : Lit × DataW H → Nat
  | (.string bytes, d) => bytes.length + uptoBulk d + 1
  | (_, d) => uptoBulk d + 1
 end
def uptoSmall : (H : Type) → List (DataW H) → Bool := fun _ ds => decide (uptoBulkAll ds ≤ 1048576)
def OpenSpec.upto (s : _root_.Go.ChangeSpec) : _root_.Go.OpenSpec := { _root_.Go.OpenSpec.ofChange s with cond := some uptoSmall }

/-- 'humpyardlaw.OrderWrongs', WHERE WHAT IT READS IS OF BULK AT MOST 1048576: true; the input reads as it did. -/
def orderWrongsUptoRow : OpenClaim := { program := "ytapgojgcmlnbgaa", sum := "f0d5589438a2e2f588f6e7aeac343c00f20c881069260be0561f8025b5f011f0", func := "humpyard/humpyardlaw.OrderWrongs", spec := "orderWrongs", apart := false, narrowed := true }
def OrderWrongsUptoSaid : Prop := orderWrongsUptoRow.holds Try.pinned (OpenSpec.upto orderWrongsSpec)

/-- 'humpyardlaw.OrderSees', WHERE WHAT IT READS IS OF BULK AT MOST 1048576: true; the input reads as it did. -/
def orderSeesUptoRow : OpenClaim := { program := "ytapgojgcmlnbgaa", sum := "f0d5589438a2e2f588f6e7aeac343c00f20c881069260be0561f8025b5f011f0", func := "humpyard/humpyardlaw.OrderSees", spec := "orderSees", apart := false, narrowed := true }
def OrderSeesUptoSaid : Prop := orderSeesUptoRow.holds Try.pinned (OpenSpec.upto orderSeesSpec)

/-- 'humpyardlaw.GuessTells', WHERE WHAT IT READS IS OF BULK AT MOST 1048576: true; the input reads as it did. -/
def guessTellsUptoRow : OpenClaim := { program := "ytapgojgcmlnbgaa", sum := "f0d5589438a2e2f588f6e7aeac343c00f20c881069260be0561f8025b5f011f0", func := "humpyard/humpyardlaw.GuessTells", spec := "guessTells", apart := false, narrowed := true }
def GuessTellsUptoSaid : Prop := guessTellsUptoRow.holds Try.pinned (OpenSpec.upto guessTellsSpec)

/-- 'humpyardkeep.GuessLearns', WHERE WHAT IT READS IS OF BULK AT MOST 1048576: true; the input reads as it did. -/
def guessLearnsUptoRow : OpenClaim := { program := "ytapgojgcmlnbgaa", sum := "f0d5589438a2e2f588f6e7aeac343c00f20c881069260be0561f8025b5f011f0", func := "humpyard/humpyardkeep.GuessLearns", spec := "guessLearns", apart := false, narrowed := true }
def GuessLearnsUptoSaid : Prop := guessLearnsUptoRow.holds Try.pinned (OpenSpec.upto guessLearnsSpec)

/-- 'humpyardkeep.RenameKeeps', WHERE WHAT IT READS IS OF BULK AT MOST 1048576: true; the input reads as it did. -/
def renameKeepsUptoRow : OpenClaim := { program := "ytapgojgcmlnbgaa", sum := "f0d5589438a2e2f588f6e7aeac343c00f20c881069260be0561f8025b5f011f0", func := "humpyard/humpyardkeep.RenameKeeps", spec := "renameKeeps", apart := false, narrowed := true }
def RenameKeepsUptoSaid : Prop := renameKeepsUptoRow.holds Try.pinned (OpenSpec.upto renameKeepsSpec)

/-- 'humpyardkeep.RenameUndoes', WHERE WHAT IT READS IS OF BULK AT MOST 1048576: true; the input reads as it did. -/
def renameUndoesUptoRow : OpenClaim := { program := "ytapgojgcmlnbgaa", sum := "f0d5589438a2e2f588f6e7aeac343c00f20c881069260be0561f8025b5f011f0", func := "humpyard/humpyardkeep.RenameUndoes", spec := "renameUndoes", apart := false, narrowed := true }
def RenameUndoesUptoSaid : Prop := renameUndoesUptoRow.holds Try.pinned (OpenSpec.upto renameUndoesSpec)

/-- 'humpyardlaw.MemTells', WHERE WHAT IT READS IS OF BULK AT MOST 1048576: true; the input reads as it did. -/
def memTellsUptoRow : OpenClaim := { program := "ytapgojgcmlnbgaa", sum := "f0d5589438a2e2f588f6e7aeac343c00f20c881069260be0561f8025b5f011f0", func := "humpyard/humpyardlaw.MemTells", spec := "memTells", apart := false, narrowed := true }
def MemTellsUptoSaid : Prop := memTellsUptoRow.holds Try.pinned (OpenSpec.upto memTellsSpec)

/-- 'humpyardkeep.MemBack', WHERE WHAT IT READS IS OF BULK AT MOST 1048576: true; the input reads as it did. -/
def memBackUptoRow : OpenClaim := { program := "ytapgojgcmlnbgaa", sum := "f0d5589438a2e2f588f6e7aeac343c00f20c881069260be0561f8025b5f011f0", func := "humpyard/humpyardkeep.MemBack", spec := "memBack", apart := false, narrowed := true }
def MemBackUptoSaid : Prop := memBackUptoRow.holds Try.pinned (OpenSpec.upto memBackSpec)

/-- 'humpyardkeep.OrderPlain', WHERE WHAT IT READS IS OF BULK AT MOST 1048576: true; the input reads as it did. -/
def orderPlainUptoRow : OpenClaim := { program := "ytapgojgcmlnbgaa", sum := "f0d5589438a2e2f588f6e7aeac343c00f20c881069260be0561f8025b5f011f0", func := "humpyard/humpyardkeep.OrderPlain", spec := "orderPlain", apart := false, narrowed := true }
def OrderPlainUptoSaid : Prop := orderPlainUptoRow.holds Try.pinned (OpenSpec.upto orderPlainSpec)

/-- 'humpyardlaw.RenameTells', WHERE WHAT IT READS IS OF BULK AT MOST 1048576: true; the input reads as it did. -/
def renameTellsUptoRow : OpenClaim := { program := "ytapgojgcmlnbgaa", sum := "f0d5589438a2e2f588f6e7aeac343c00f20c881069260be0561f8025b5f011f0", func := "humpyard/humpyardlaw.RenameTells", spec := "renameTells", apart := false, narrowed := true }
def RenameTellsUptoSaid : Prop := renameTellsUptoRow.holds Try.pinned (OpenSpec.upto renameTellsSpec)

end Rows
end Go.Proofs.Ytapgojgcmlnbgaa
