/-
  No cell of these rows narrows 'for every input' (looked for: loops, veiled, ifaces, maps, wideKeys, modest, calm, conditions, laid).
  DERIVED. THE GIVEN ROWS OF THIS SEAT. 7 by the template 'for every input the law returns true; each argument reads behind the call as it read before'; 0 by the template 'total and deterministic' (their statements: YtjmgphobpgajbaaTotals.lean).
  GIVEN WITH THE SEED: the statements are not yours to turn. If you find one false, say at which input.
  Laid BY PROGRAM, IN A SANDBOX (cutbox-rows.mjs): the forced cells as the released guide's own fill.sh prints them over the translation 719c6a6c95a4197a… (all of the seat's roots in one cut). By AI agents, Wed Nov 11 2026. No macro, syntax, notation, axiom, sorry.
-/
import Derived.Test.YtjmgphobpgajbaaChecked
import GoSem.Claim
import GoSem.ClaimJoined
import GoSem.ClaimMapViews
import Derived.JoinedTies
import Derived.KernelRfl
namespace Go.Proofs.Ytjmgphobpgajbaa
/- THE CELL 'sum', in the pinned program and in every row, IS THE sha256 OF THE DUMP (.gsa) THAT YtjmgphobpgajbaaProg.lean LOADS. Nothing in Lean hashes anything: it is a label: what it is worth is what the hold of that sum in a sandbox is worth. -/
noncomputable def Try.pinned : Pinned := { name := "ytjmgphobpgajbaa", sum := "719c6a6c95a4197afe48fd6142f52bb78f8c32ae6b134ee4a91c9245870edacb", checked := Try.checked }
namespace Rows
def none {H : Type} : Left H := { results := [], args := [] }

/-- 'papermilllaw49.KnifePositions': WHATEVER THE INPUT: true; the input reads as it did. -/
def knifePositionsSpec : ChangeSpec := { name := "knifePositions", fn := fun _ => fun
  | [d1, d2] => { results := [.lit (.bool true)], args := [d1, d2] }
  | _ => none }
def knifePositionsRow : OpenClaim := { program := "ytjmgphobpgajbaa", sum := "719c6a6c95a4197afe48fd6142f52bb78f8c32ae6b134ee4a91c9245870edacb", func := "papermill/papermilllaw49.KnifePositions", spec := "knifePositions", unfollowed := true, recurses := true, apart := false }
def KnifePositionsSaid : Prop := knifePositionsRow.holds Try.pinned (OpenSpec.ofChange knifePositionsSpec)

/-- ITS FALSE NEIGHBOUR: 'it returns false'. Refute it at one input. -/
def knifePositionsWrong : ChangeSpec := { name := "knifePositions", fn := fun _ => fun
  | [d1, d2] => { results := [.lit (.bool false)], args := [d1, d2] }
  | _ => none }
def KnifePositionsWrongFalsely : Prop := knifePositionsRow.holds Try.pinned (OpenSpec.ofChange knifePositionsWrong)

/-- 'papermilllaw49.KnifeMoves': WHATEVER THE INPUT: true; the input reads as it did. -/
def knifeMovesSpec : ChangeSpec := { name := "knifeMoves", fn := fun _ => fun
  | [d1, d2, d3] => { results := [.lit (.bool true)], args := [d1, d2, d3] }
  | _ => none }
def knifeMovesRow : OpenClaim := { program := "ytjmgphobpgajbaa", sum := "719c6a6c95a4197afe48fd6142f52bb78f8c32ae6b134ee4a91c9245870edacb", func := "papermill/papermilllaw49.KnifeMoves", spec := "knifeMoves", unfollowed := true, recurses := true, apart := false }
def KnifeMovesSaid : Prop := knifeMovesRow.holds Try.pinned (OpenSpec.ofChange knifeMovesSpec)

/-- ITS FALSE NEIGHBOUR: 'it returns false'. Refute it at one input. -/
def knifeMovesWrong : ChangeSpec := { name := "knifeMoves", fn := fun _ => fun
  | [d1, d2, d3] => { results := [.lit (.bool false)], args := [d1, d2, d3] }
  | _ => none }
def KnifeMovesWrongFalsely : Prop := knifeMovesRow.holds Try.pinned (OpenSpec.ofChange knifeMovesWrong)

/-- 'papermilllaw49.KnifeSequences': WHATEVER THE INPUT: true; the input reads as it did. -/
def knifeSequencesSpec : ChangeSpec := { name := "knifeSequences", fn := fun _ => fun
  | [d1, d2] => { results := [.lit (.bool true)], args := [d1, d2] }
  | _ => none }
def knifeSequencesRow : OpenClaim := { program := "ytjmgphobpgajbaa", sum := "719c6a6c95a4197afe48fd6142f52bb78f8c32ae6b134ee4a91c9245870edacb", func := "papermill/papermilllaw49.KnifeSequences", spec := "knifeSequences", unfollowed := true, recurses := true, apart := false }
def KnifeSequencesSaid : Prop := knifeSequencesRow.holds Try.pinned (OpenSpec.ofChange knifeSequencesSpec)

/-- ITS FALSE NEIGHBOUR: 'it returns false'. Refute it at one input. -/
def knifeSequencesWrong : ChangeSpec := { name := "knifeSequences", fn := fun _ => fun
  | [d1, d2] => { results := [.lit (.bool false)], args := [d1, d2] }
  | _ => none }
def KnifeSequencesWrongFalsely : Prop := knifeSequencesRow.holds Try.pinned (OpenSpec.ofChange knifeSequencesWrong)

/-- 'papermilllaw49.KnifeCosts': WHATEVER THE INPUT: true; the input reads as it did. -/
def knifeCostsSpec : ChangeSpec := { name := "knifeCosts", fn := fun _ => fun
  | [d1, d2, d3] => { results := [.lit (.bool true)], args := [d1, d2, d3] }
  | _ => none }
def knifeCostsRow : OpenClaim := { program := "ytjmgphobpgajbaa", sum := "719c6a6c95a4197afe48fd6142f52bb78f8c32ae6b134ee4a91c9245870edacb", func := "papermill/papermilllaw49.KnifeCosts", spec := "knifeCosts", unfollowed := true, recurses := true, apart := false }
def KnifeCostsSaid : Prop := knifeCostsRow.holds Try.pinned (OpenSpec.ofChange knifeCostsSpec)

/-- ITS FALSE NEIGHBOUR: 'it returns false'. Refute it at one input. -/
def knifeCostsWrong : ChangeSpec := { name := "knifeCosts", fn := fun _ => fun
  | [d1, d2, d3] => { results := [.lit (.bool false)], args := [d1, d2, d3] }
  | _ => none }
def KnifeCostsWrongFalsely : Prop := knifeCostsRow.holds Try.pinned (OpenSpec.ofChange knifeCostsWrong)

/-- 'papermilllaw49.KnifeLeast': WHATEVER THE INPUT: true; the input reads as it did. -/
def knifeLeastSpec : ChangeSpec := { name := "knifeLeast", fn := fun _ => fun
  | [d1, d2, d3] => { results := [.lit (.bool true)], args := [d1, d2, d3] }
  | _ => none }
def knifeLeastRow : OpenClaim := { program := "ytjmgphobpgajbaa", sum := "719c6a6c95a4197afe48fd6142f52bb78f8c32ae6b134ee4a91c9245870edacb", func := "papermill/papermilllaw49.KnifeLeast", spec := "knifeLeast", unfollowed := true, recurses := true, apart := false }
def KnifeLeastSaid : Prop := knifeLeastRow.holds Try.pinned (OpenSpec.ofChange knifeLeastSpec)

/-- ITS FALSE NEIGHBOUR: 'it returns false'. Refute it at one input. -/
def knifeLeastWrong : ChangeSpec := { name := "knifeLeast", fn := fun _ => fun
  | [d1, d2, d3] => { results := [.lit (.bool false)], args := [d1, d2, d3] }
  | _ => none }
def KnifeLeastWrongFalsely : Prop := knifeLeastRow.holds Try.pinned (OpenSpec.ofChange knifeLeastWrong)

/-- 'papermilllaw49.KnifeEnds': WHATEVER THE INPUT: true; the input reads as it did. -/
def knifeEndsSpec : ChangeSpec := { name := "knifeEnds", fn := fun _ => fun
  | [d1, d2, d3] => { results := [.lit (.bool true)], args := [d1, d2, d3] }
  | _ => none }
def knifeEndsRow : OpenClaim := { program := "ytjmgphobpgajbaa", sum := "719c6a6c95a4197afe48fd6142f52bb78f8c32ae6b134ee4a91c9245870edacb", func := "papermill/papermilllaw49.KnifeEnds", spec := "knifeEnds", unfollowed := true, recurses := true, apart := false }
def KnifeEndsSaid : Prop := knifeEndsRow.holds Try.pinned (OpenSpec.ofChange knifeEndsSpec)

/-- ITS FALSE NEIGHBOUR: 'it returns false'. Refute it at one input. -/
def knifeEndsWrong : ChangeSpec := { name := "knifeEnds", fn := fun _ => fun
  | [d1, d2, d3] => { results := [.lit (.bool false)], args := [d1, d2, d3] }
  | _ => none }
def KnifeEndsWrongFalsely : Prop := knifeEndsRow.holds Try.pinned (OpenSpec.ofChange knifeEndsWrong)

/-- 'papermilllaw49.KnifeTurns': WHATEVER THE INPUT: true; the input reads as it did. -/
def knifeTurnsSpec : ChangeSpec := { name := "knifeTurns", fn := fun _ => fun
  | [d1, d2, d3] => { results := [.lit (.bool true)], args := [d1, d2, d3] }
  | _ => none }
def knifeTurnsRow : OpenClaim := { program := "ytjmgphobpgajbaa", sum := "719c6a6c95a4197afe48fd6142f52bb78f8c32ae6b134ee4a91c9245870edacb", func := "papermill/papermilllaw49.KnifeTurns", spec := "knifeTurns", unfollowed := true, recurses := true, apart := false }
def KnifeTurnsSaid : Prop := knifeTurnsRow.holds Try.pinned (OpenSpec.ofChange knifeTurnsSpec)

/-- ITS FALSE NEIGHBOUR: 'it returns false'. Refute it at one input. -/
def knifeTurnsWrong : ChangeSpec := { name := "knifeTurns", fn := fun _ => fun
  | [d1, d2, d3] => { results := [.lit (.bool false)], args := [d1, d2, d3] }
  | _ => none }
def KnifeTurnsWrongFalsely : Prop := knifeTurnsRow.holds Try.pinned (OpenSpec.ofChange knifeTurnsWrong)

/- THE SECOND FORM. 'bulk': how many values and letters a reading holds, each counted each time it is reached (what is shared counts as often as it is met; a slice's spare places count too). A statement '..UptoSaid' is the law's where the arguments, and the package variables that the reading takes, are together of bulk at most 1048576: NARROWER than '..Said'. Prove '..Said' where nothing that the law and all that it calls make is longer than what came in: it says more and counts as full. Else prove '..UptoSaid'. A law counts once. -/
mutual
def uptoBulk {H : Type} : DataW H → Nat
  | .lit (.string bytes) => bytes.length + 1
  | .lit _ => 1
  | .nil => 1
  | .ptr d => uptoBulk d + 1
  | .slice elems spare => uptoBulkAll elems + uptoBulkAll spare + 1
  | .agg parts => uptoBulkAll parts + 1
  | .iface _ d => uptoBulk d + 1
  | .map entries => uptoBulkEntries entries + 1
  | .held _ => 1
def uptoBulkAll {H : Type} : List (DataW H) → Nat
  | [] => 0
  | d :: r => uptoBulk d + uptoBulkAll r
def uptoBulkEntries {H : Type} : List (Lit × DataW H) → Nat
  | [] => 0
  | x :: r => uptoBulkEntry x + uptoBulkEntries r
def uptoBulkEntry {H : Type} : Lit × DataW H → Nat
  | (.string bytes, d) => bytes.length + uptoBulk d + 1
  | (_, d) => uptoBulk d + 1
 end
def uptoSmall : (H : Type) → List (DataW H) → Bool := fun _ ds => decide (uptoBulkAll ds ≤ 1048576)
def OpenSpec.upto (s : _root_.Go.ChangeSpec) : _root_.Go.OpenSpec := { _root_.Go.OpenSpec.ofChange s with cond := some uptoSmall }

/-- 'papermilllaw49.KnifePositions', WHERE WHAT IT READS IS OF BULK AT MOST 1048576: true; the input reads as it did. -/
def knifePositionsUptoRow : OpenClaim := { program := "ytjmgphobpgajbaa", sum := "719c6a6c95a4197afe48fd6142f52bb78f8c32ae6b134ee4a91c9245870edacb", func := "papermill/papermilllaw49.KnifePositions", spec := "knifePositions", unfollowed := true, recurses := true, apart := false, narrowed := true }
def KnifePositionsUptoSaid : Prop := knifePositionsUptoRow.holds Try.pinned (OpenSpec.upto knifePositionsSpec)

/-- 'papermilllaw49.KnifeMoves', WHERE WHAT IT READS IS OF BULK AT MOST 1048576: true; the input reads as it did. -/
def knifeMovesUptoRow : OpenClaim := { program := "ytjmgphobpgajbaa", sum := "719c6a6c95a4197afe48fd6142f52bb78f8c32ae6b134ee4a91c9245870edacb", func := "papermill/papermilllaw49.KnifeMoves", spec := "knifeMoves", unfollowed := true, recurses := true, apart := false, narrowed := true }
def KnifeMovesUptoSaid : Prop := knifeMovesUptoRow.holds Try.pinned (OpenSpec.upto knifeMovesSpec)

/-- 'papermilllaw49.KnifeSequences', WHERE WHAT IT READS IS OF BULK AT MOST 1048576: true; the input reads as it did. -/
def knifeSequencesUptoRow : OpenClaim := { program := "ytjmgphobpgajbaa", sum := "719c6a6c95a4197afe48fd6142f52bb78f8c32ae6b134ee4a91c9245870edacb", func := "papermill/papermilllaw49.KnifeSequences", spec := "knifeSequences", unfollowed := true, recurses := true, apart := false, narrowed := true }
def KnifeSequencesUptoSaid : Prop := knifeSequencesUptoRow.holds Try.pinned (OpenSpec.upto knifeSequencesSpec)

/-- 'papermilllaw49.KnifeCosts', WHERE WHAT IT READS IS OF BULK AT MOST 1048576: true; the input reads as it did. -/
def knifeCostsUptoRow : OpenClaim := { program := "ytjmgphobpgajbaa", sum := "719c6a6c95a4197afe48fd6142f52bb78f8c32ae6b134ee4a91c9245870edacb", func := "papermill/papermilllaw49.KnifeCosts", spec := "knifeCosts", unfollowed := true, recurses := true, apart := false, narrowed := true }
def KnifeCostsUptoSaid : Prop := knifeCostsUptoRow.holds Try.pinned (OpenSpec.upto knifeCostsSpec)

/-- 'papermilllaw49.KnifeLeast', WHERE WHAT IT READS IS OF BULK AT MOST 1048576: true; the input reads as it did. -/
def knifeLeastUptoRow : OpenClaim := { program := "ytjmgphobpgajbaa", sum := "719c6a6c95a4197afe48fd6142f52bb78f8c32ae6b134ee4a91c9245870edacb", func := "papermill/papermilllaw49.KnifeLeast", spec := "knifeLeast", unfollowed := true, recurses := true, apart := false, narrowed := true }
def KnifeLeastUptoSaid : Prop := knifeLeastUptoRow.holds Try.pinned (OpenSpec.upto knifeLeastSpec)

/-- 'papermilllaw49.KnifeEnds', WHERE WHAT IT READS IS OF BULK AT MOST 1048576: true; the input reads as it did. -/
def knifeEndsUptoRow : OpenClaim := { program := "ytjmgphobpgajbaa", sum := "719c6a6c95a4197afe48fd6142f52bb78f8c32ae6b134ee4a91c9245870edacb", func := "papermill/papermilllaw49.KnifeEnds", spec := "knifeEnds", unfollowed := true, recurses := true, apart := false, narrowed := true }
def KnifeEndsUptoSaid : Prop := knifeEndsUptoRow.holds Try.pinned (OpenSpec.upto knifeEndsSpec)

/-- 'papermilllaw49.KnifeTurns', WHERE WHAT IT READS IS OF BULK AT MOST 1048576: true; the input reads as it did. -/
def knifeTurnsUptoRow : OpenClaim := { program := "ytjmgphobpgajbaa", sum := "719c6a6c95a4197afe48fd6142f52bb78f8c32ae6b134ee4a91c9245870edacb", func := "papermill/papermilllaw49.KnifeTurns", spec := "knifeTurns", unfollowed := true, recurses := true, apart := false, narrowed := true }
def KnifeTurnsUptoSaid : Prop := knifeTurnsUptoRow.holds Try.pinned (OpenSpec.upto knifeTurnsSpec)

end Rows
end Go.Proofs.Ytjmgphobpgajbaa
