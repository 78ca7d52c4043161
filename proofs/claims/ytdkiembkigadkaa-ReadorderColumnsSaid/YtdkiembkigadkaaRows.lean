/-
  No cell of these rows narrows 'for every input' (looked for: loops, veiled, ifaces, maps, wideKeys, modest, calm, conditions, laid).
  DERIVED. THE GIVEN ROWS OF THIS SEAT. 7 by the template 'for every input the law returns true; each argument reads behind the call as it read before'; 0 by the template 'total and deterministic' (their statements: YtdkiembkigadkaaTotals.lean).
  GIVEN WITH THE SEED: the statements are not yours to turn. If you find one false, say at which input.
  Laid BY PROGRAM, IN A SANDBOX (cutbox-rows.mjs): the forced cells as the released guide's own fill.sh prints them over the translation 1392303d400fa949… (all of the seat's roots in one cut). By AI agents, Wed Nov 11 2026. No macro, syntax, notation, axiom, sorry.
-/
import Derived.Test.YtdkiembkigadkaaChecked
import GoSem.Claim
import GoSem.ClaimJoined
import GoSem.ClaimMapViews
import Derived.JoinedTies
import Derived.KernelRfl
namespace Go.Proofs.Ytdkiembkigadkaa
/- THE CELL 'sum', in the pinned program and in every row, IS THE sha256 OF THE DUMP (.gsa) THAT YtdkiembkigadkaaProg.lean LOADS. Nothing in Lean hashes anything: it is a label: what it is worth is what the hold of that sum in a sandbox is worth. -/
noncomputable def Try.pinned : Pinned := { name := "ytdkiembkigadkaa", sum := "1392303d400fa949360b61dd8fa1d1f30d2f51018e905c36e1ee3360fe4fb971", checked := Try.checked }
namespace Rows
def none {H : Type} : Left H := { results := [], args := [] }

/-- 'barscanlaw50.ReadorderPermutes': WHATEVER THE INPUT: true; the input reads as it did. -/
def readorderPermutesSpec : ChangeSpec := { name := "readorderPermutes", fn := fun _ => fun
  | [d] => { results := [.lit (.bool true)], args := [d] }
  | _ => none }
def readorderPermutesRow : OpenClaim := { program := "ytdkiembkigadkaa", sum := "1392303d400fa949360b61dd8fa1d1f30d2f51018e905c36e1ee3360fe4fb971", func := "barscan/barscanlaw50.ReadorderPermutes", spec := "readorderPermutes", unfollowed := true, recurses := true, apart := false }
def ReadorderPermutesSaid : Prop := readorderPermutesRow.holds Try.pinned (OpenSpec.ofChange readorderPermutesSpec)

/-- ITS FALSE NEIGHBOUR: 'it returns false'. Refute it at one input. -/
def readorderPermutesWrong : ChangeSpec := { name := "readorderPermutes", fn := fun _ => fun
  | [d] => { results := [.lit (.bool false)], args := [d] }
  | _ => none }
def ReadorderPermutesWrongFalsely : Prop := readorderPermutesRow.holds Try.pinned (OpenSpec.ofChange readorderPermutesWrong)

/-- 'barscanlaw50.ReadorderRelation': WHATEVER THE INPUT: true; the input reads as it did. -/
def readorderRelationSpec : ChangeSpec := { name := "readorderRelation", fn := fun _ => fun
  | [d1, d2] => { results := [.lit (.bool true)], args := [d1, d2] }
  | _ => none }
def readorderRelationRow : OpenClaim := { program := "ytdkiembkigadkaa", sum := "1392303d400fa949360b61dd8fa1d1f30d2f51018e905c36e1ee3360fe4fb971", func := "barscan/barscanlaw50.ReadorderRelation", spec := "readorderRelation", unfollowed := true, recurses := true, apart := false }
def ReadorderRelationSaid : Prop := readorderRelationRow.holds Try.pinned (OpenSpec.ofChange readorderRelationSpec)

/-- ITS FALSE NEIGHBOUR: 'it returns false'. Refute it at one input. -/
def readorderRelationWrong : ChangeSpec := { name := "readorderRelation", fn := fun _ => fun
  | [d1, d2] => { results := [.lit (.bool false)], args := [d1, d2] }
  | _ => none }
def ReadorderRelationWrongFalsely : Prop := readorderRelationRow.holds Try.pinned (OpenSpec.ofChange readorderRelationWrong)

/-- 'barscanlaw50.ReadorderColumns': WHATEVER THE INPUT: true; the input reads as it did. -/
def readorderColumnsSpec : ChangeSpec := { name := "readorderColumns", fn := fun _ => fun
  | [d1, d2] => { results := [.lit (.bool true)], args := [d1, d2] }
  | _ => none }
def readorderColumnsRow : OpenClaim := { program := "ytdkiembkigadkaa", sum := "1392303d400fa949360b61dd8fa1d1f30d2f51018e905c36e1ee3360fe4fb971", func := "barscan/barscanlaw50.ReadorderColumns", spec := "readorderColumns", unfollowed := true, recurses := true, apart := false }
def ReadorderColumnsSaid : Prop := readorderColumnsRow.holds Try.pinned (OpenSpec.ofChange readorderColumnsSpec)

/-- ITS FALSE NEIGHBOUR: 'it returns false'. Refute it at one input. -/
def readorderColumnsWrong : ChangeSpec := { name := "readorderColumns", fn := fun _ => fun
  | [d1, d2] => { results := [.lit (.bool false)], args := [d1, d2] }
  | _ => none }
def ReadorderColumnsWrongFalsely : Prop := readorderColumnsRow.holds Try.pinned (OpenSpec.ofChange readorderColumnsWrong)

/-- 'barscanlaw50.ReadorderParagraphs': WHATEVER THE INPUT: true; the input reads as it did. -/
def readorderParagraphsSpec : ChangeSpec := { name := "readorderParagraphs", fn := fun _ => fun
  | [d1, d2] => { results := [.lit (.bool true)], args := [d1, d2] }
  | _ => none }
def readorderParagraphsRow : OpenClaim := { program := "ytdkiembkigadkaa", sum := "1392303d400fa949360b61dd8fa1d1f30d2f51018e905c36e1ee3360fe4fb971", func := "barscan/barscanlaw50.ReadorderParagraphs", spec := "readorderParagraphs", unfollowed := true, recurses := true, apart := false }
def ReadorderParagraphsSaid : Prop := readorderParagraphsRow.holds Try.pinned (OpenSpec.ofChange readorderParagraphsSpec)

/-- ITS FALSE NEIGHBOUR: 'it returns false'. Refute it at one input. -/
def readorderParagraphsWrong : ChangeSpec := { name := "readorderParagraphs", fn := fun _ => fun
  | [d1, d2] => { results := [.lit (.bool false)], args := [d1, d2] }
  | _ => none }
def ReadorderParagraphsWrongFalsely : Prop := readorderParagraphsRow.holds Try.pinned (OpenSpec.ofChange readorderParagraphsWrong)

/-- 'barscanlaw50.ReadorderDivides': WHATEVER THE INPUT: true; the input reads as it did. -/
def readorderDividesSpec : ChangeSpec := { name := "readorderDivides", fn := fun _ => fun
  | [d1, d2] => { results := [.lit (.bool true)], args := [d1, d2] }
  | _ => none }
def readorderDividesRow : OpenClaim := { program := "ytdkiembkigadkaa", sum := "1392303d400fa949360b61dd8fa1d1f30d2f51018e905c36e1ee3360fe4fb971", func := "barscan/barscanlaw50.ReadorderDivides", spec := "readorderDivides", unfollowed := true, recurses := true, apart := false }
def ReadorderDividesSaid : Prop := readorderDividesRow.holds Try.pinned (OpenSpec.ofChange readorderDividesSpec)

/-- ITS FALSE NEIGHBOUR: 'it returns false'. Refute it at one input. -/
def readorderDividesWrong : ChangeSpec := { name := "readorderDivides", fn := fun _ => fun
  | [d1, d2] => { results := [.lit (.bool false)], args := [d1, d2] }
  | _ => none }
def ReadorderDividesWrongFalsely : Prop := readorderDividesRow.holds Try.pinned (OpenSpec.ofChange readorderDividesWrong)

/-- 'barscanlaw50.ReadorderMoves': WHATEVER THE INPUT: true; the input reads as it did. -/
def readorderMovesSpec : ChangeSpec := { name := "readorderMoves", fn := fun _ => fun
  | [d1, d2, d3, d4] => { results := [.lit (.bool true)], args := [d1, d2, d3, d4] }
  | _ => none }
def readorderMovesRow : OpenClaim := { program := "ytdkiembkigadkaa", sum := "1392303d400fa949360b61dd8fa1d1f30d2f51018e905c36e1ee3360fe4fb971", func := "barscan/barscanlaw50.ReadorderMoves", spec := "readorderMoves", unfollowed := true, recurses := true, apart := false }
def ReadorderMovesSaid : Prop := readorderMovesRow.holds Try.pinned (OpenSpec.ofChange readorderMovesSpec)

/-- ITS FALSE NEIGHBOUR: 'it returns false'. Refute it at one input. -/
def readorderMovesWrong : ChangeSpec := { name := "readorderMoves", fn := fun _ => fun
  | [d1, d2, d3, d4] => { results := [.lit (.bool false)], args := [d1, d2, d3, d4] }
  | _ => none }
def ReadorderMovesWrongFalsely : Prop := readorderMovesRow.holds Try.pinned (OpenSpec.ofChange readorderMovesWrong)

/-- 'barscanlaw50.ReadorderSorts': WHATEVER THE INPUT: true; the input reads as it did. -/
def readorderSortsSpec : ChangeSpec := { name := "readorderSorts", fn := fun _ => fun
  | [d] => { results := [.lit (.bool true)], args := [d] }
  | _ => none }
def readorderSortsRow : OpenClaim := { program := "ytdkiembkigadkaa", sum := "1392303d400fa949360b61dd8fa1d1f30d2f51018e905c36e1ee3360fe4fb971", func := "barscan/barscanlaw50.ReadorderSorts", spec := "readorderSorts", unfollowed := true, recurses := true, apart := false }
def ReadorderSortsSaid : Prop := readorderSortsRow.holds Try.pinned (OpenSpec.ofChange readorderSortsSpec)

/-- ITS FALSE NEIGHBOUR: 'it returns false'. Refute it at one input. -/
def readorderSortsWrong : ChangeSpec := { name := "readorderSorts", fn := fun _ => fun
  | [d] => { results := [.lit (.bool false)], args := [d] }
  | _ => none }
def ReadorderSortsWrongFalsely : Prop := readorderSortsRow.holds Try.pinned (OpenSpec.ofChange readorderSortsWrong)

/- THE SECOND FORM. 'bulk': how many values and letters a reading holds, each counted each time it is reached (what is shared counts as often as it is met; a slice's spare places count too). A statement '..UptoSaid' is the law's where the arguments, and the package variables that the reading takes, are together of bulk at most 1048576: NARROWER than '..Said'. Prove '..Said' where nothing that the law and all that it calls make is longer than what came in: it says more and counts as full. Else prove '..UptoSaid'. A law counts once. -/
mutual
def uptoBulk {H : Type} : DataW H → Nat
  | .lit (.string bytes) => bytes.length + 1
  | .lit _ => 1
  | .nil => 1
  | .ptr d => uptoBulk d + 1
  | .slice elems spare => uptoBulkAll elems + uptoBulkAll spare + 1
  | .agg parts => uptoBulkAll parts + 1
  | .iface _ d => uptoBulk d + 1
  | .map entries => uptoBulkEntries entries + 1
  | .held _ => 1
def uptoBulkAll {H : Type} : List (DataW H) → Nat
  | [] => 0
  | d :: r => uptoBulk d + uptoBulkAll r
def uptoBulkEntries {H : Type} : List (Lit × DataW H) → Nat
  | [] => 0
  | x :: r => uptoBulkEntry x + uptoBulkEntries r
def uptoBulkEntry {H : Type} : Lit × DataW H → Nat
  | (.string bytes, d) => bytes.length + uptoBulk d + 1
  | (_, d) => uptoBulk d + 1
 end
def uptoSmall : (H : Type) → List (DataW H) → Bool := fun _ ds => decide (uptoBulkAll ds ≤ 1048576)
def OpenSpec.upto (s : _root_.Go.ChangeSpec) : _root_.Go.OpenSpec := { _root_.Go.OpenSpec.ofChange s with cond := some uptoSmall }

/-- 'barscanlaw50.ReadorderPermutes', WHERE WHAT IT READS IS OF BULK AT MOST 1048576: true; the input reads as it did. -/
def readorderPermutesUptoRow : OpenClaim := { program := "ytdkiembkigadkaa", sum := "1392303d400fa949360b61dd8fa1d1f30d2f51018e905c36e1ee3360fe4fb971", func := "barscan/barscanlaw50.ReadorderPermutes", spec := "readorderPermutes", unfollowed := true, recurses := true, apart := false, narrowed := true }
def ReadorderPermutesUptoSaid : Prop := readorderPermutesUptoRow.holds Try.pinned (OpenSpec.upto readorderPermutesSpec)

/-- 'barscanlaw50.ReadorderRelation', WHERE WHAT IT READS IS OF BULK AT MOST 1048576: true; the input reads as it did. -/
def readorderRelationUptoRow : OpenClaim := { program := "ytdkiembkigadkaa", sum := "1392303d400fa949360b61dd8fa1d1f30d2f51018e905c36e1ee3360fe4fb971", func := "barscan/barscanlaw50.ReadorderRelation", spec := "readorderRelation", unfollowed := true, recurses := true, apart := false, narrowed := true }
def ReadorderRelationUptoSaid : Prop := readorderRelationUptoRow.holds Try.pinned (OpenSpec.upto readorderRelationSpec)

/-- 'barscanlaw50.ReadorderColumns', WHERE WHAT IT READS IS OF BULK AT MOST 1048576: true; the input reads as it did. -/
def readorderColumnsUptoRow : OpenClaim := { program := "ytdkiembkigadkaa", sum := "1392303d400fa949360b61dd8fa1d1f30d2f51018e905c36e1ee3360fe4fb971", func := "barscan/barscanlaw50.ReadorderColumns", spec := "readorderColumns", unfollowed := true, recurses := true, apart := false, narrowed := true }
def ReadorderColumnsUptoSaid : Prop := readorderColumnsUptoRow.holds Try.pinned (OpenSpec.upto readorderColumnsSpec)

/-- 'barscanlaw50.ReadorderParagraphs', WHERE WHAT IT READS IS OF BULK AT MOST 1048576: true; the input reads as it did. -/
def readorderParagraphsUptoRow : OpenClaim := { program := "ytdkiembkigadkaa", sum := "1392303d400fa949360b61dd8fa1d1f30d2f51018e905c36e1ee3360fe4fb971", func := "barscan/barscanlaw50.ReadorderParagraphs", spec := "readorderParagraphs", unfollowed := true, recurses := true, apart := false, narrowed := true }
def ReadorderParagraphsUptoSaid : Prop := readorderParagraphsUptoRow.holds Try.pinned (OpenSpec.upto readorderParagraphsSpec)

/-- 'barscanlaw50.ReadorderDivides', WHERE WHAT IT READS IS OF BULK AT MOST 1048576: true; the input reads as it did. -/
def readorderDividesUptoRow : OpenClaim := { program := "ytdkiembkigadkaa", sum := "1392303d400fa949360b61dd8fa1d1f30d2f51018e905c36e1ee3360fe4fb971", func := "barscan/barscanlaw50.ReadorderDivides", spec := "readorderDivides", unfollowed := true, recurses := true, apart := false, narrowed := true }
def ReadorderDividesUptoSaid : Prop := readorderDividesUptoRow.holds Try.pinned (OpenSpec.upto readorderDividesSpec)

/-- 'barscanlaw50.ReadorderMoves', WHERE WHAT IT READS IS OF BULK AT MOST 1048576: true; the input reads as it did. -/
def readorderMovesUptoRow : OpenClaim := { program := "ytdkiembkigadkaa", sum := "1392303d400fa949360b61dd8fa1d1f30d2f51018e905c36e1ee3360fe4fb971", func := "barscan/barscanlaw50.ReadorderMoves", spec := "readorderMoves", unfollowed := true, recurses := true, apart := false, narrowed := true }
def ReadorderMovesUptoSaid : Prop := readorderMovesUptoRow.holds Try.pinned (OpenSpec.upto readorderMovesSpec)

/-- 'barscanlaw50.ReadorderSorts', WHERE WHAT IT READS IS OF BULK AT MOST 1048576: true; the input reads as it did. -/
def readorderSortsUptoRow : OpenClaim := { program := "ytdkiembkigadkaa", sum := "1392303d400fa949360b61dd8fa1d1f30d2f51018e905c36e1ee3360fe4fb971", func := "barscan/barscanlaw50.ReadorderSorts", spec := "readorderSorts", unfollowed := true, recurses := true, apart := false, narrowed := true }
def ReadorderSortsUptoSaid : Prop := readorderSortsUptoRow.holds Try.pinned (OpenSpec.upto readorderSortsSpec)

end Rows
end Go.Proofs.Ytdkiembkigadkaa
