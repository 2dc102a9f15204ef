/-
  No cell of these rows narrows 'for every input' (looked for: loops, veiled, ifaces, maps, wideKeys, modest, calm, conditions, laid).
  DERIVED. THE GIVEN ROWS OF THIS SEAT. 7 by the template 'for every input the law returns true; each argument reads behind the call as it read before'; 0 by the template 'total and deterministic' (their statements: YtkdapoipnkpbeaaTotals.lean).
  GIVEN WITH THE SEED: the statements are not yours to turn. If you find one false, say at which input.
  Laid BY PROGRAM, IN A SANDBOX (cutbox-rows.mjs): the forced cells as the released guide's own fill.sh prints them over the translation f5c1c2b5663b8aae… (all of the seat's roots in one cut). By AI agents, Wed Nov 11 2026. No macro, syntax, notation, axiom, sorry.
-/
import Derived.Test.YtkdapoipnkpbeaaChecked
import GoSem.Claim
import GoSem.ClaimJoined
import GoSem.ClaimMapViews
import Derived.JoinedTies
import Derived.KernelRfl
namespace Go.Proofs.Ytkdapoipnkpbeaa
/- THE CELL 'sum', in the pinned program and in every row, IS THE sha256 OF THE DUMP (.gsa) THAT YtkdapoipnkpbeaaProg.lean LOADS. Nothing in Lean hashes anything: it is a label: what it is worth is what the hold of that sum in a sandbox is worth. -/
noncomputable def Try.pinned : Pinned := { name := "ytkdapoipnkpbeaa", sum := "f5c1c2b5663b8aaeadbba36833b8dd53bf3917b0b3eca5cdbc0ee72b405f048e", checked := Try.checked }
namespace Rows
def none {H : Type} : Left H := { results := [], args := [] }

/-- 'papermilllaw36.DefectMerges': WHATEVER THE INPUT: true; the input reads as it did. -/
def defectMergesSpec : ChangeSpec := { name := "defectMerges", fn := fun _ => fun
  | [d1, d2] => { results := [.lit (.bool true)], args := [d1, d2] }
  | _ => none }
def defectMergesRow : OpenClaim := { program := "ytkdapoipnkpbeaa", sum := "f5c1c2b5663b8aaeadbba36833b8dd53bf3917b0b3eca5cdbc0ee72b405f048e", func := "papermill/papermilllaw36.DefectMerges", spec := "defectMerges", unfollowed := true, recurses := true, apart := false }
def DefectMergesSaid : Prop := defectMergesRow.holds Try.pinned (OpenSpec.ofChange defectMergesSpec)

/-- ITS FALSE NEIGHBOUR: 'it returns false'. Refute it at one input. -/
def defectMergesWrong : ChangeSpec := { name := "defectMerges", fn := fun _ => fun
  | [d1, d2] => { results := [.lit (.bool false)], args := [d1, d2] }
  | _ => none }
def DefectMergesWrongFalsely : Prop := defectMergesRow.holds Try.pinned (OpenSpec.ofChange defectMergesWrong)

/-- 'papermilllaw36.DefectLengths': WHATEVER THE INPUT: true; the input reads as it did. -/
def defectLengthsSpec : ChangeSpec := { name := "defectLengths", fn := fun _ => fun
  | [d1, d2] => { results := [.lit (.bool true)], args := [d1, d2] }
  | _ => none }
def defectLengthsRow : OpenClaim := { program := "ytkdapoipnkpbeaa", sum := "f5c1c2b5663b8aaeadbba36833b8dd53bf3917b0b3eca5cdbc0ee72b405f048e", func := "papermill/papermilllaw36.DefectLengths", spec := "defectLengths", unfollowed := true, recurses := true, apart := false }
def DefectLengthsSaid : Prop := defectLengthsRow.holds Try.pinned (OpenSpec.ofChange defectLengthsSpec)

/-- ITS FALSE NEIGHBOUR: 'it returns false'. Refute it at one input. -/
def defectLengthsWrong : ChangeSpec := { name := "defectLengths", fn := fun _ => fun
  | [d1, d2] => { results := [.lit (.bool false)], args := [d1, d2] }
  | _ => none }
def DefectLengthsWrongFalsely : Prop := defectLengthsRow.holds Try.pinned (OpenSpec.ofChange defectLengthsWrong)

/-- 'papermilllaw36.DefectSelects': WHATEVER THE INPUT: true; the input reads as it did. -/
def defectSelectsSpec : ChangeSpec := { name := "defectSelects", fn := fun _ => fun
  | [d1, d2, d3] => { results := [.lit (.bool true)], args := [d1, d2, d3] }
  | _ => none }
def defectSelectsRow : OpenClaim := { program := "ytkdapoipnkpbeaa", sum := "f5c1c2b5663b8aaeadbba36833b8dd53bf3917b0b3eca5cdbc0ee72b405f048e", func := "papermill/papermilllaw36.DefectSelects", spec := "defectSelects", unfollowed := true, recurses := true, apart := false }
def DefectSelectsSaid : Prop := defectSelectsRow.holds Try.pinned (OpenSpec.ofChange defectSelectsSpec)

/-- ITS FALSE NEIGHBOUR: 'it returns false'. Refute it at one input. -/
def defectSelectsWrong : ChangeSpec := { name := "defectSelects", fn := fun _ => fun
  | [d1, d2, d3] => { results := [.lit (.bool false)], args := [d1, d2, d3] }
  | _ => none }
def DefectSelectsWrongFalsely : Prop := defectSelectsRow.holds Try.pinned (OpenSpec.ofChange defectSelectsWrong)

/-- 'papermilllaw36.DefectMerged': WHATEVER THE INPUT: true; the input reads as it did. -/
def defectMergedSpec : ChangeSpec := { name := "defectMerged", fn := fun _ => fun
  | [d1, d2] => { results := [.lit (.bool true)], args := [d1, d2] }
  | _ => none }
def defectMergedRow : OpenClaim := { program := "ytkdapoipnkpbeaa", sum := "f5c1c2b5663b8aaeadbba36833b8dd53bf3917b0b3eca5cdbc0ee72b405f048e", func := "papermill/papermilllaw36.DefectMerged", spec := "defectMerged", unfollowed := true, recurses := true, apart := false }
def DefectMergedSaid : Prop := defectMergedRow.holds Try.pinned (OpenSpec.ofChange defectMergedSpec)

/-- ITS FALSE NEIGHBOUR: 'it returns false'. Refute it at one input. -/
def defectMergedWrong : ChangeSpec := { name := "defectMerged", fn := fun _ => fun
  | [d1, d2] => { results := [.lit (.bool false)], args := [d1, d2] }
  | _ => none }
def DefectMergedWrongFalsely : Prop := defectMergedRow.holds Try.pinned (OpenSpec.ofChange defectMergedWrong)

/-- 'papermilllaw36.DefectLeast': WHATEVER THE INPUT: true; the input reads as it did. -/
def defectLeastSpec : ChangeSpec := { name := "defectLeast", fn := fun _ => fun
  | [d1, d2] => { results := [.lit (.bool true)], args := [d1, d2] }
  | _ => none }
def defectLeastRow : OpenClaim := { program := "ytkdapoipnkpbeaa", sum := "f5c1c2b5663b8aaeadbba36833b8dd53bf3917b0b3eca5cdbc0ee72b405f048e", func := "papermill/papermilllaw36.DefectLeast", spec := "defectLeast", unfollowed := true, recurses := true, apart := false }
def DefectLeastSaid : Prop := defectLeastRow.holds Try.pinned (OpenSpec.ofChange defectLeastSpec)

/-- ITS FALSE NEIGHBOUR: 'it returns false'. Refute it at one input. -/
def defectLeastWrong : ChangeSpec := { name := "defectLeast", fn := fun _ => fun
  | [d1, d2] => { results := [.lit (.bool false)], args := [d1, d2] }
  | _ => none }
def DefectLeastWrongFalsely : Prop := defectLeastRow.holds Try.pinned (OpenSpec.ofChange defectLeastWrong)

/-- 'papermilllaw36.DefectClips': WHATEVER THE INPUT: true; the input reads as it did. -/
def defectClipsSpec : ChangeSpec := { name := "defectClips", fn := fun _ => fun
  | [d1, d2] => { results := [.lit (.bool true)], args := [d1, d2] }
  | _ => none }
def defectClipsRow : OpenClaim := { program := "ytkdapoipnkpbeaa", sum := "f5c1c2b5663b8aaeadbba36833b8dd53bf3917b0b3eca5cdbc0ee72b405f048e", func := "papermill/papermilllaw36.DefectClips", spec := "defectClips", unfollowed := true, recurses := true, apart := false }
def DefectClipsSaid : Prop := defectClipsRow.holds Try.pinned (OpenSpec.ofChange defectClipsSpec)

/-- ITS FALSE NEIGHBOUR: 'it returns false'. Refute it at one input. -/
def defectClipsWrong : ChangeSpec := { name := "defectClips", fn := fun _ => fun
  | [d1, d2] => { results := [.lit (.bool false)], args := [d1, d2] }
  | _ => none }
def DefectClipsWrongFalsely : Prop := defectClipsRow.holds Try.pinned (OpenSpec.ofChange defectClipsWrong)

/-- 'papermilllaw36.DefectClipped': WHATEVER THE INPUT: true; the input reads as it did. -/
def defectClippedSpec : ChangeSpec := { name := "defectClipped", fn := fun _ => fun
  | [d1, d2] => { results := [.lit (.bool true)], args := [d1, d2] }
  | _ => none }
def defectClippedRow : OpenClaim := { program := "ytkdapoipnkpbeaa", sum := "f5c1c2b5663b8aaeadbba36833b8dd53bf3917b0b3eca5cdbc0ee72b405f048e", func := "papermill/papermilllaw36.DefectClipped", spec := "defectClipped", unfollowed := true, recurses := true, apart := false }
def DefectClippedSaid : Prop := defectClippedRow.holds Try.pinned (OpenSpec.ofChange defectClippedSpec)

/-- ITS FALSE NEIGHBOUR: 'it returns false'. Refute it at one input. -/
def defectClippedWrong : ChangeSpec := { name := "defectClipped", fn := fun _ => fun
  | [d1, d2] => { results := [.lit (.bool false)], args := [d1, d2] }
  | _ => none }
def DefectClippedWrongFalsely : Prop := defectClippedRow.holds Try.pinned (OpenSpec.ofChange defectClippedWrong)

/- THE SECOND FORM. 'bulk': how many values and letters a reading holds, each counted each time it is reached (what is shared counts as often as it is met; a slice's spare places count too). A statement '..UptoSaid' is the law's where the arguments, and the package variables that the reading takes, are together of bulk at most 1048576: NARROWER than '..Said'. Prove '..Said' where nothing that the law and all that it calls make is longer than what came in: it says more and counts as full. Else prove '..UptoSaid'. A law counts once. -/
mutual
def uptoBulk {H : Type} : DataW H → Nat
  | .lit (.string bytes) => bytes.length + 1
  | .lit _ => 1
  | .nil => 1
  | .ptr d => uptoBulk d + 1
  | .slice elems spare => uptoBulkAll elems + uptoBulkAll spare + 1
  | .agg parts => uptoBulkAll parts + 1
  | .iface _ d => uptoBulk d + 1
  | .map entries => uptoBulkEntries entries + 1
  | .held _ => 1
def uptoBulkAll {H : Type} : List (DataW H) → Nat
  | [] => 0
  | d :: r => uptoBulk d + uptoBulkAll r
def uptoBulkEntries {H : Type} : List (Lit × DataW H) → Nat
  | [] => 0
  | x :: r => uptoBulkEntry x + uptoBulkEntries r
def uptoBulkEntry {H : Type} : Lit × DataW H → Nat
  | (.string bytes, d) => bytes.length + uptoBulk d + 1
  | (_, d) => uptoBulk d + 1
 end
def uptoSmall : (H : Type) → List (DataW H) → Bool := fun _ ds => decide (uptoBulkAll ds ≤ 1048576)
def OpenSpec.upto (s : _root_.Go.ChangeSpec) : _root_.Go.OpenSpec := { _root_.Go.OpenSpec.ofChange s with cond := some uptoSmall }

/-- 'papermilllaw36.DefectMerges', WHERE WHAT IT READS IS OF BULK AT MOST 1048576: true; the input reads as it did. -/
def defectMergesUptoRow : OpenClaim := { program := "ytkdapoipnkpbeaa", sum := "f5c1c2b5663b8aaeadbba36833b8dd53bf3917b0b3eca5cdbc0ee72b405f048e", func := "papermill/papermilllaw36.DefectMerges", spec := "defectMerges", unfollowed := true, recurses := true, apart := false, narrowed := true }
def DefectMergesUptoSaid : Prop := defectMergesUptoRow.holds Try.pinned (OpenSpec.upto defectMergesSpec)

/-- 'papermilllaw36.DefectLengths', WHERE WHAT IT READS IS OF BULK AT MOST 1048576: true; the input reads as it did. -/
def defectLengthsUptoRow : OpenClaim := { program := "ytkdapoipnkpbeaa", sum := "f5c1c2b5663b8aaeadbba36833b8dd53bf3917b0b3eca5cdbc0ee72b405f048e", func := "papermill/papermilllaw36.DefectLengths", spec := "defectLengths", unfollowed := true, recurses := true, apart := false, narrowed := true }
def DefectLengthsUptoSaid : Prop := defectLengthsUptoRow.holds Try.pinned (OpenSpec.upto defectLengthsSpec)

/-- 'papermilllaw36.DefectSelects', WHERE WHAT IT READS IS OF BULK AT MOST 1048576: true; the input reads as it did. -/
def defectSelectsUptoRow : OpenClaim := { program := "ytkdapoipnkpbeaa", sum := "f5c1c2b5663b8aaeadbba36833b8dd53bf3917b0b3eca5cdbc0ee72b405f048e", func := "papermill/papermilllaw36.DefectSelects", spec := "defectSelects", unfollowed := true, recurses := true, apart := false, narrowed := true }
def DefectSelectsUptoSaid : Prop := defectSelectsUptoRow.holds Try.pinned (OpenSpec.upto defectSelectsSpec)

/-- 'papermilllaw36.DefectMerged', WHERE WHAT IT READS IS OF BULK AT MOST 1048576: true; the input reads as it did. -/
def defectMergedUptoRow : OpenClaim := { program := "ytkdapoipnkpbeaa", sum := "f5c1c2b5663b8aaeadbba36833b8dd53bf3917b0b3eca5cdbc0ee72b405f048e", func := "papermill/papermilllaw36.DefectMerged", spec := "defectMerged", unfollowed := true, recurses := true, apart := false, narrowed := true }
def DefectMergedUptoSaid : Prop := defectMergedUptoRow.holds Try.pinned (OpenSpec.upto defectMergedSpec)

/-- 'papermilllaw36.DefectLeast', WHERE WHAT IT READS IS OF BULK AT MOST 1048576: true; the input reads as it did. -/
def defectLeastUptoRow : OpenClaim := { program := "ytkdapoipnkpbeaa", sum := "f5c1c2b5663b8aaeadbba36833b8dd53bf3917b0b3eca5cdbc0ee72b405f048e", func := "papermill/papermilllaw36.DefectLeast", spec := "defectLeast", unfollowed := true, recurses := true, apart := false, narrowed := true }
def DefectLeastUptoSaid : Prop := defectLeastUptoRow.holds Try.pinned (OpenSpec.upto defectLeastSpec)

/-- 'papermilllaw36.DefectClips', WHERE WHAT IT READS IS OF BULK AT MOST 1048576: true; the input reads as it did. -/
def defectClipsUptoRow : OpenClaim := { program := "ytkdapoipnkpbeaa", sum := "f5c1c2b5663b8aaeadbba36833b8dd53bf3917b0b3eca5cdbc0ee72b405f048e", func := "papermill/papermilllaw36.DefectClips", spec := "defectClips", unfollowed := true, recurses := true, apart := false, narrowed := true }
def DefectClipsUptoSaid : Prop := defectClipsUptoRow.holds Try.pinned (OpenSpec.upto defectClipsSpec)

/-- 'papermilllaw36.DefectClipped', WHERE WHAT IT READS IS OF BULK AT MOST 1048576: true; the input reads as it did. -/
def defectClippedUptoRow : OpenClaim := { program := "ytkdapoipnkpbeaa", sum := "f5c1c2b5663b8aaeadbba36833b8dd53bf3917b0b3eca5cdbc0ee72b405f048e", func := "papermill/papermilllaw36.DefectClipped", spec := "defectClipped", unfollowed := true, recurses := true, apart := false, narrowed := true }
def DefectClippedUptoSaid : Prop := defectClippedUptoRow.holds Try.pinned (OpenSpec.upto defectClippedSpec)

end Rows
end Go.Proofs.Ytkdapoipnkpbeaa
