/-
  No cell of these rows narrows 'for every input' (looked for: loops, veiled, ifaces, maps, wideKeys, modest, calm, conditions, laid).
  DERIVED. THE GIVEN ROWS OF THIS SEAT. 12 by the template 'for every input the law returns true; each argument reads behind the call as it read before'; 0 by the template 'total and deterministic' (their statements: YtapgojgcmlnbgabTotals.lean).
  GIVEN WITH THE SEED: the statements are not yours to turn. If you find one false, say at which input.
  Laid BY PROGRAM, IN A SANDBOX (cutbox-rows.mjs): the forced cells as the released guide's own fill.sh prints them over the translation d20562088216d06b… (all of the seat's roots in one cut). By AI agents, Wed Nov 11 2026. No macro, syntax, notation, axiom, sorry.
-/
import Derived.Test.YtapgojgcmlnbgabChecked
import GoSem.Claim
import GoSem.ClaimJoined
import GoSem.ClaimMapViews
import Derived.JoinedTies
import Derived.KernelRfl
namespace Go.Proofs.Ytapgojgcmlnbgab
/- THE CELL 'sum', in the pinned program and in every row, IS THE sha256 OF THE DUMP (.gsa) THAT YtapgojgcmlnbgabProg.lean LOADS. Nothing in Lean hashes anything: it is a label: what it is worth is what the hold of that sum in a sandbox is worth. -/
noncomputable def Try.pinned : Pinned := { name := "ytapgojgcmlnbgab", sum := "d20562088216d06b0b1c09265eb690adae4eac4a059301295699342ee6832d9c", checked := Try.checked }
namespace Rows
def none {H : Type} : Left H := { results := [], args := [] }

/-- 'humpyardlaw.WindowTells': WHATEVER THE INPUT: true; the input reads as it did. -/
def windowTellsSpec : ChangeSpec := { name := "windowTells", fn := fun _ => fun
  | [d1, d2, d3, d4] => { results := [.lit (.bool true)], args := [d1, d2, d3, d4] }
  | _ => none }
def windowTellsRow : OpenClaim := { program := "ytapgojgcmlnbgab", sum := "d20562088216d06b0b1c09265eb690adae4eac4a059301295699342ee6832d9c", func := "humpyard/humpyardlaw.WindowTells", spec := "windowTells", unfollowed := true, recurses := true, apart := false }
def WindowTellsSaid : Prop := windowTellsRow.holds Try.pinned (OpenSpec.ofChange windowTellsSpec)

/-- ITS FALSE NEIGHBOUR: 'it returns false'. Refute it at one input. -/
def windowTellsWrong : ChangeSpec := { name := "windowTells", fn := fun _ => fun
  | [d1, d2, d3, d4] => { results := [.lit (.bool false)], args := [d1, d2, d3, d4] }
  | _ => none }
def WindowTellsWrongFalsely : Prop := windowTellsRow.holds Try.pinned (OpenSpec.ofChange windowTellsWrong)

/-- 'humpyardkeep.WindowOrders': WHATEVER THE INPUT: true; the input reads as it did. -/
def windowOrdersSpec : ChangeSpec := { name := "windowOrders", fn := fun _ => fun
  | [d1, d2] => { results := [.lit (.bool true)], args := [d1, d2] }
  | _ => none }
def windowOrdersRow : OpenClaim := { program := "ytapgojgcmlnbgab", sum := "d20562088216d06b0b1c09265eb690adae4eac4a059301295699342ee6832d9c", func := "humpyard/humpyardkeep.WindowOrders", spec := "windowOrders", unfollowed := true, recurses := true, apart := false }
def WindowOrdersSaid : Prop := windowOrdersRow.holds Try.pinned (OpenSpec.ofChange windowOrdersSpec)

/-- ITS FALSE NEIGHBOUR: 'it returns false'. Refute it at one input. -/
def windowOrdersWrong : ChangeSpec := { name := "windowOrders", fn := fun _ => fun
  | [d1, d2] => { results := [.lit (.bool false)], args := [d1, d2] }
  | _ => none }
def WindowOrdersWrongFalsely : Prop := windowOrdersRow.holds Try.pinned (OpenSpec.ofChange windowOrdersWrong)

/-- 'humpyardkeep.WordDivides': WHATEVER THE INPUT: true; the input reads as it did. -/
def wordDividesSpec : ChangeSpec := { name := "wordDivides", fn := fun _ => fun
  | [d1, d2] => { results := [.lit (.bool true)], args := [d1, d2] }
  | _ => none }
def wordDividesRow : OpenClaim := { program := "ytapgojgcmlnbgab", sum := "d20562088216d06b0b1c09265eb690adae4eac4a059301295699342ee6832d9c", func := "humpyard/humpyardkeep.WordDivides", spec := "wordDivides", apart := false }
def WordDividesSaid : Prop := wordDividesRow.holds Try.pinned (OpenSpec.ofChange wordDividesSpec)

/-- ITS FALSE NEIGHBOUR: 'it returns false'. Refute it at one input. -/
def wordDividesWrong : ChangeSpec := { name := "wordDivides", fn := fun _ => fun
  | [d1, d2] => { results := [.lit (.bool false)], args := [d1, d2] }
  | _ => none }
def WordDividesWrongFalsely : Prop := wordDividesRow.holds Try.pinned (OpenSpec.ofChange wordDividesWrong)

/-- 'humpyardlaw.DecodeTells': WHATEVER THE INPUT: true; the input reads as it did. -/
def decodeTellsSpec : ChangeSpec := { name := "decodeTells", fn := fun _ => fun
  | [d] => { results := [.lit (.bool true)], args := [d] }
  | _ => none }
def decodeTellsRow : OpenClaim := { program := "ytapgojgcmlnbgab", sum := "d20562088216d06b0b1c09265eb690adae4eac4a059301295699342ee6832d9c", func := "humpyard/humpyardlaw.DecodeTells", spec := "decodeTells", unfollowed := true, recurses := true, apart := false }
def DecodeTellsSaid : Prop := decodeTellsRow.holds Try.pinned (OpenSpec.ofChange decodeTellsSpec)

/-- ITS FALSE NEIGHBOUR: 'it returns false'. Refute it at one input. -/
def decodeTellsWrong : ChangeSpec := { name := "decodeTells", fn := fun _ => fun
  | [d] => { results := [.lit (.bool false)], args := [d] }
  | _ => none }
def DecodeTellsWrongFalsely : Prop := decodeTellsRow.holds Try.pinned (OpenSpec.ofChange decodeTellsWrong)

/-- 'humpyardlaw.WordTells': WHATEVER THE INPUT: true; the input reads as it did. -/
def wordTellsSpec : ChangeSpec := { name := "wordTells", fn := fun _ => fun
  | [d1, d2, d3] => { results := [.lit (.bool true)], args := [d1, d2, d3] }
  | _ => none }
def wordTellsRow : OpenClaim := { program := "ytapgojgcmlnbgab", sum := "d20562088216d06b0b1c09265eb690adae4eac4a059301295699342ee6832d9c", func := "humpyard/humpyardlaw.WordTells", spec := "wordTells", apart := false }
def WordTellsSaid : Prop := wordTellsRow.holds Try.pinned (OpenSpec.ofChange wordTellsSpec)

/-- ITS FALSE NEIGHBOUR: 'it returns false'. Refute it at one input. -/
def wordTellsWrong : ChangeSpec := { name := "wordTells", fn := fun _ => fun
  | [d1, d2, d3] => { results := [.lit (.bool false)], args := [d1, d2, d3] }
  | _ => none }
def WordTellsWrongFalsely : Prop := wordTellsRow.holds Try.pinned (OpenSpec.ofChange wordTellsWrong)

/-- 'humpyardlaw.DecodeEncodes': WHATEVER THE INPUT: true; the input reads as it did. -/
def decodeEncodesSpec : ChangeSpec := { name := "decodeEncodes", fn := fun _ => fun
  | [d] => { results := [.lit (.bool true)], args := [d] }
  | _ => none }
def decodeEncodesRow : OpenClaim := { program := "ytapgojgcmlnbgab", sum := "d20562088216d06b0b1c09265eb690adae4eac4a059301295699342ee6832d9c", func := "humpyard/humpyardlaw.DecodeEncodes", spec := "decodeEncodes", unfollowed := true, recurses := true, apart := false }
def DecodeEncodesSaid : Prop := decodeEncodesRow.holds Try.pinned (OpenSpec.ofChange decodeEncodesSpec)

/-- ITS FALSE NEIGHBOUR: 'it returns false'. Refute it at one input. -/
def decodeEncodesWrong : ChangeSpec := { name := "decodeEncodes", fn := fun _ => fun
  | [d] => { results := [.lit (.bool false)], args := [d] }
  | _ => none }
def DecodeEncodesWrongFalsely : Prop := decodeEncodesRow.holds Try.pinned (OpenSpec.ofChange decodeEncodesWrong)

/-- 'humpyardkeep.DecodeBack': WHATEVER THE INPUT: true; the input reads as it did. -/
def decodeBackSpec : ChangeSpec := { name := "decodeBack", fn := fun _ => fun
  | [d] => { results := [.lit (.bool true)], args := [d] }
  | _ => none }
def decodeBackRow : OpenClaim := { program := "ytapgojgcmlnbgab", sum := "d20562088216d06b0b1c09265eb690adae4eac4a059301295699342ee6832d9c", func := "humpyard/humpyardkeep.DecodeBack", spec := "decodeBack", unfollowed := true, recurses := true, apart := false }
def DecodeBackSaid : Prop := decodeBackRow.holds Try.pinned (OpenSpec.ofChange decodeBackSpec)

/-- ITS FALSE NEIGHBOUR: 'it returns false'. Refute it at one input. -/
def decodeBackWrong : ChangeSpec := { name := "decodeBack", fn := fun _ => fun
  | [d] => { results := [.lit (.bool false)], args := [d] }
  | _ => none }
def DecodeBackWrongFalsely : Prop := decodeBackRow.holds Try.pinned (OpenSpec.ofChange decodeBackWrong)

/-- 'humpyardlaw.HartSteps': WHATEVER THE INPUT: true; the input reads as it did. -/
def hartStepsSpec : ChangeSpec := { name := "hartSteps", fn := fun _ => fun
  | [d1, d2] => { results := [.lit (.bool true)], args := [d1, d2] }
  | _ => none }
def hartStepsRow : OpenClaim := { program := "ytapgojgcmlnbgab", sum := "d20562088216d06b0b1c09265eb690adae4eac4a059301295699342ee6832d9c", func := "humpyard/humpyardlaw.HartSteps", spec := "hartSteps", unfollowed := true, recurses := true, apart := false }
def HartStepsSaid : Prop := hartStepsRow.holds Try.pinned (OpenSpec.ofChange hartStepsSpec)

/-- ITS FALSE NEIGHBOUR: 'it returns false'. Refute it at one input. -/
def hartStepsWrong : ChangeSpec := { name := "hartSteps", fn := fun _ => fun
  | [d1, d2] => { results := [.lit (.bool false)], args := [d1, d2] }
  | _ => none }
def HartStepsWrongFalsely : Prop := hartStepsRow.holds Try.pinned (OpenSpec.ofChange hartStepsWrong)

/-- 'humpyardkeep.HartTells': WHATEVER THE INPUT: true; the input reads as it did. -/
def hartTellsSpec : ChangeSpec := { name := "hartTells", fn := fun _ => fun
  | [d1, d2] => { results := [.lit (.bool true)], args := [d1, d2] }
  | _ => none }
def hartTellsRow : OpenClaim := { program := "ytapgojgcmlnbgab", sum := "d20562088216d06b0b1c09265eb690adae4eac4a059301295699342ee6832d9c", func := "humpyard/humpyardkeep.HartTells", spec := "hartTells", unfollowed := true, recurses := true, apart := false }
def HartTellsSaid : Prop := hartTellsRow.holds Try.pinned (OpenSpec.ofChange hartTellsSpec)

/-- ITS FALSE NEIGHBOUR: 'it returns false'. Refute it at one input. -/
def hartTellsWrong : ChangeSpec := { name := "hartTells", fn := fun _ => fun
  | [d1, d2] => { results := [.lit (.bool false)], args := [d1, d2] }
  | _ => none }
def HartTellsWrongFalsely : Prop := hartTellsRow.holds Try.pinned (OpenSpec.ofChange hartTellsWrong)

/-- 'humpyardlaw.ModelRuns': WHATEVER THE INPUT: true; the input reads as it did. -/
def modelRunsSpec : ChangeSpec := { name := "modelRuns", fn := fun _ => fun
  | [d1, d2, d3] => { results := [.lit (.bool true)], args := [d1, d2, d3] }
  | _ => none }
def modelRunsRow : OpenClaim := { program := "ytapgojgcmlnbgab", sum := "d20562088216d06b0b1c09265eb690adae4eac4a059301295699342ee6832d9c", func := "humpyard/humpyardlaw.ModelRuns", spec := "modelRuns", unfollowed := true, recurses := true, apart := false }
def ModelRunsSaid : Prop := modelRunsRow.holds Try.pinned (OpenSpec.ofChange modelRunsSpec)

/-- ITS FALSE NEIGHBOUR: 'it returns false'. Refute it at one input. -/
def modelRunsWrong : ChangeSpec := { name := "modelRuns", fn := fun _ => fun
  | [d1, d2, d3] => { results := [.lit (.bool false)], args := [d1, d2, d3] }
  | _ => none }
def ModelRunsWrongFalsely : Prop := modelRunsRow.holds Try.pinned (OpenSpec.ofChange modelRunsWrong)

/-- 'humpyardkeep.ModelReplays': WHATEVER THE INPUT: true; the input reads as it did. -/
def modelReplaysSpec : ChangeSpec := { name := "modelReplays", fn := fun _ => fun
  | [d1, d2, d3] => { results := [.lit (.bool true)], args := [d1, d2, d3] }
  | _ => none }
def modelReplaysRow : OpenClaim := { program := "ytapgojgcmlnbgab", sum := "d20562088216d06b0b1c09265eb690adae4eac4a059301295699342ee6832d9c", func := "humpyard/humpyardkeep.ModelReplays", spec := "modelReplays", unfollowed := true, recurses := true, apart := false }
def ModelReplaysSaid : Prop := modelReplaysRow.holds Try.pinned (OpenSpec.ofChange modelReplaysSpec)

/-- ITS FALSE NEIGHBOUR: 'it returns false'. Refute it at one input. -/
def modelReplaysWrong : ChangeSpec := { name := "modelReplays", fn := fun _ => fun
  | [d1, d2, d3] => { results := [.lit (.bool false)], args := [d1, d2, d3] }
  | _ => none }
def ModelReplaysWrongFalsely : Prop := modelReplaysRow.holds Try.pinned (OpenSpec.ofChange modelReplaysWrong)

/-- 'humpyardkeep.ModelSplits': WHATEVER THE INPUT: true; the input reads as it did. -/
def modelSplitsSpec : ChangeSpec := { name := "modelSplits", fn := fun _ => fun
  | [d1, d2, d3, d4] => { results := [.lit (.bool true)], args := [d1, d2, d3, d4] }
  | _ => none }
def modelSplitsRow : OpenClaim := { program := "ytapgojgcmlnbgab", sum := "d20562088216d06b0b1c09265eb690adae4eac4a059301295699342ee6832d9c", func := "humpyard/humpyardkeep.ModelSplits", spec := "modelSplits", unfollowed := true, recurses := true, apart := false }
def ModelSplitsSaid : Prop := modelSplitsRow.holds Try.pinned (OpenSpec.ofChange modelSplitsSpec)

/-- ITS FALSE NEIGHBOUR: 'it returns false'. Refute it at one input. -/
def modelSplitsWrong : ChangeSpec := { name := "modelSplits", fn := fun _ => fun
  | [d1, d2, d3, d4] => { results := [.lit (.bool false)], args := [d1, d2, d3, d4] }
  | _ => none }
def ModelSplitsWrongFalsely : Prop := modelSplitsRow.holds Try.pinned (OpenSpec.ofChange modelSplitsWrong)

/- THE SECOND FORM. 'bulk': how many values and letters a reading holds, each counted each time it is reached (what is shared counts as often as it is met; a slice's spare places count too). A statement '..UptoSaid' is the law's where the arguments, and the package variables that the reading takes, are together of bulk at most 1048576: NARROWER than '..Said'. Prove '..Said' where nothing that the law and all that it calls make is longer than what came in: it says more and counts as full. Else prove '..UptoSaid'. A law counts once. -/
mutual
def uptoBulk {H : Type} : DataW H → Nat
  | .lit (.string bytes) => bytes.length + 1
  | .lit _ => 1
  | .nil => 1
  | .ptr d => uptoBulk d + 1
  | .slice elems spare => uptoBulkAll elems + uptoBulkAll spare + 1
  | .agg parts => uptoBulkAll parts + 1
  | .iface _ d => uptoBulk d + 1
  | .map entries => uptoBulkEntries entries + 1
  | .held _ => 1
def uptoBulkAll {H : Type} : List (DataW H) → Nat
  | [] => 0
  | d :: r => uptoBulk d + uptoBulkAll r
def uptoBulkEntries {H : Type} : List (Lit × DataW H) → Nat
  | [] => 0
  | x :: r => uptoBulkEntry x + uptoBulkEntries r
def uptoBulkEntry {H : Type} : Lit × DataW H → Nat
  | (.string bytes, d) => bytes.length + uptoBulk d + 1
  | (_, d) => uptoBulk d + 1
 end
def uptoSmall : (H : Type) → List (DataW H) → Bool := fun _ ds => decide (uptoBulkAll ds ≤ 1048576)
def OpenSpec.upto (s : _root_.Go.ChangeSpec) : _root_.Go.OpenSpec := { _root_.Go.OpenSpec.ofChange s with cond := some uptoSmall }

/-- 'humpyardlaw.WindowTells', WHERE WHAT IT READS IS OF BULK AT MOST 1048576: true; the input reads as it did. -/
def windowTellsUptoRow : OpenClaim := { program := "ytapgojgcmlnbgab", sum := "d20562088216d06b0b1c09265eb690adae4eac4a059301295699342ee6832d9c", func := "humpyard/humpyardlaw.WindowTells", spec := "windowTells", unfollowed := true, recurses := true, apart := false, narrowed := true }
def WindowTellsUptoSaid : Prop := windowTellsUptoRow.holds Try.pinned (OpenSpec.upto windowTellsSpec)

/-- 'humpyardkeep.WindowOrders', WHERE WHAT IT READS IS OF BULK AT MOST 1048576: true; the input reads as it did. -/
def windowOrdersUptoRow : OpenClaim := { program := "ytapgojgcmlnbgab", sum := "d20562088216d06b0b1c09265eb690adae4eac4a059301295699342ee6832d9c", func := "humpyard/humpyardkeep.WindowOrders", spec := "windowOrders", unfollowed := true, recurses := true, apart := false, narrowed := true }
def WindowOrdersUptoSaid : Prop := windowOrdersUptoRow.holds Try.pinned (OpenSpec.upto windowOrdersSpec)

/-- 'humpyardkeep.WordDivides', WHERE WHAT IT READS IS OF BULK AT MOST 1048576: true; the input reads as it did. -/
def wordDividesUptoRow : OpenClaim := { program := "ytapgojgcmlnbgab", sum := "d20562088216d06b0b1c09265eb690adae4eac4a059301295699342ee6832d9c", func := "humpyard/humpyardkeep.WordDivides", spec := "wordDivides", apart := false, narrowed := true }
def WordDividesUptoSaid : Prop := wordDividesUptoRow.holds Try.pinned (OpenSpec.upto wordDividesSpec)

/-- 'humpyardlaw.DecodeTells', WHERE WHAT IT READS IS OF BULK AT MOST 1048576: true; the input reads as it did. -/
def decodeTellsUptoRow : OpenClaim := { program := "ytapgojgcmlnbgab", sum := "d20562088216d06b0b1c09265eb690adae4eac4a059301295699342ee6832d9c", func := "humpyard/humpyardlaw.DecodeTells", spec := "decodeTells", unfollowed := true, recurses := true, apart := false, narrowed := true }
def DecodeTellsUptoSaid : Prop := decodeTellsUptoRow.holds Try.pinned (OpenSpec.upto decodeTellsSpec)

/-- 'humpyardlaw.WordTells', WHERE WHAT IT READS IS OF BULK AT MOST 1048576: true; the input reads as it did. -/
def wordTellsUptoRow : OpenClaim := { program := "ytapgojgcmlnbgab", sum := "d20562088216d06b0b1c09265eb690adae4eac4a059301295699342ee6832d9c", func := "humpyard/humpyardlaw.WordTells", spec := "wordTells", apart := false, narrowed := true }
def WordTellsUptoSaid : Prop := wordTellsUptoRow.holds Try.pinned (OpenSpec.upto wordTellsSpec)

/-- 'humpyardlaw.DecodeEncodes', WHERE WHAT IT READS IS OF BULK AT MOST 1048576: true; the input reads as it did. -/
def decodeEncodesUptoRow : OpenClaim := { program := "ytapgojgcmlnbgab", sum := "d20562088216d06b0b1c09265eb690adae4eac4a059301295699342ee6832d9c", func := "humpyard/humpyardlaw.DecodeEncodes", spec := "decodeEncodes", unfollowed := true, recurses := true, apart := false, narrowed := true }
def DecodeEncodesUptoSaid : Prop := decodeEncodesUptoRow.holds Try.pinned (OpenSpec.upto decodeEncodesSpec)

/-- 'humpyardkeep.DecodeBack', WHERE WHAT IT READS IS OF BULK AT MOST 1048576: true; the input reads as it did. -/
def decodeBackUptoRow : OpenClaim := { program := "ytapgojgcmlnbgab", sum := "d20562088216d06b0b1c09265eb690adae4eac4a059301295699342ee6832d9c", func := "humpyard/humpyardkeep.DecodeBack", spec := "decodeBack", unfollowed := true, recurses := true, apart := false, narrowed := true }
def DecodeBackUptoSaid : Prop := decodeBackUptoRow.holds Try.pinned (OpenSpec.upto decodeBackSpec)

/-- 'humpyardlaw.HartSteps', WHERE WHAT IT READS IS OF BULK AT MOST 1048576: true; the input reads as it did. -/
def hartStepsUptoRow : OpenClaim := { program := "ytapgojgcmlnbgab", sum := "d20562088216d06b0b1c09265eb690adae4eac4a059301295699342ee6832d9c", func := "humpyard/humpyardlaw.HartSteps", spec := "hartSteps", unfollowed := true, recurses := true, apart := false, narrowed := true }
def HartStepsUptoSaid : Prop := hartStepsUptoRow.holds Try.pinned (OpenSpec.upto hartStepsSpec)

/-- 'humpyardkeep.HartTells', WHERE WHAT IT READS IS OF BULK AT MOST 1048576: true; the input reads as it did. -/
def hartTellsUptoRow : OpenClaim := { program := "ytapgojgcmlnbgab", sum := "d20562088216d06b0b1c09265eb690adae4eac4a059301295699342ee6832d9c", func := "humpyard/humpyardkeep.HartTells", spec := "hartTells", unfollowed := true, recurses := true, apart := false, narrowed := true }
def HartTellsUptoSaid : Prop := hartTellsUptoRow.holds Try.pinned (OpenSpec.upto hartTellsSpec)

/-- 'humpyardlaw.ModelRuns', WHERE WHAT IT READS IS OF BULK AT MOST 1048576: true; the input reads as it did. -/
def modelRunsUptoRow : OpenClaim := { program := "ytapgojgcmlnbgab", sum := "d20562088216d06b0b1c09265eb690adae4eac4a059301295699342ee6832d9c", func := "humpyard/humpyardlaw.ModelRuns", spec := "modelRuns", unfollowed := true, recurses := true, apart := false, narrowed := true }
def ModelRunsUptoSaid : Prop := modelRunsUptoRow.holds Try.pinned (OpenSpec.upto modelRunsSpec)

/-- 'humpyardkeep.ModelReplays', WHERE WHAT IT READS IS OF BULK AT MOST 1048576: true; the input reads as it did. -/
def modelReplaysUptoRow : OpenClaim := { program := "ytapgojgcmlnbgab", sum := "d20562088216d06b0b1c09265eb690adae4eac4a059301295699342ee6832d9c", func := "humpyard/humpyardkeep.ModelReplays", spec := "modelReplays", unfollowed := true, recurses := true, apart := false, narrowed := true }
def ModelReplaysUptoSaid : Prop := modelReplaysUptoRow.holds Try.pinned (OpenSpec.upto modelReplaysSpec)

/-- 'humpyardkeep.ModelSplits', WHERE WHAT IT READS IS OF BULK AT MOST 1048576: true; the input reads as it did. -/
def modelSplitsUptoRow : OpenClaim := { program := "ytapgojgcmlnbgab", sum := "d20562088216d06b0b1c09265eb690adae4eac4a059301295699342ee6832d9c", func := "humpyard/humpyardkeep.ModelSplits", spec := "modelSplits", unfollowed := true, recurses := true, apart := false, narrowed := true }
def ModelSplitsUptoSaid : Prop := modelSplitsUptoRow.holds Try.pinned (OpenSpec.upto modelSplitsSpec)

end Rows
end Go.Proofs.Ytapgojgcmlnbgab
