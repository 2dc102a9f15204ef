/-
  No cell of these rows narrows 'for every input' (looked for: loops, veiled, ifaces, maps, wideKeys, modest, calm, conditions, laid).
  DERIVED. THE GIVEN ROWS OF THIS SEAT. 8 by the template 'for every input the law returns true; each argument reads behind the call as it read before'; 0 by the template 'total and deterministic' (their statements: YtjckgkhojjnkdaaTotals.lean).
  GIVEN WITH THE SEED: the statements are not yours to turn. If you find one false, say at which input.
  Laid BY PROGRAM, IN A SANDBOX (cutbox-rows.mjs): the forced cells as the released guide's own fill.sh prints them over the translation d7b2d13d587a28a1… (all of the seat's roots in one cut). By AI agents, Wed Nov 11 2026. No macro, syntax, notation, axiom, sorry.
-/
import Derived.Test.YtjckgkhojjnkdaaChecked
import GoSem.Claim
import GoSem.ClaimJoined
import GoSem.ClaimMapViews
import Derived.JoinedTies
import Derived.KernelRfl
namespace Go.Proofs.Ytjckgkhojjnkdaa
/- THE CELL 'sum', in the pinned program and in every row, IS THE sha256 OF THE DUMP (.gsa) THAT YtjckgkhojjnkdaaProg.lean LOADS. Nothing in Lean hashes anything: it is a label: what it is worth is what the hold of that sum in a sandbox is worth. -/
noncomputable def Try.pinned : Pinned := { name := "ytjckgkhojjnkdaa", sum := "d7b2d13d587a28a13deedb1bcb5dc598a5da520f93dbf016bcd71cc0cdcad2b1", checked := Try.checked }
namespace Rows
def none {H : Type} : Left H := { results := [], args := [] }

/-- 'papermilllaw15.RectCovers': WHATEVER THE INPUT: true; the input reads as it did. -/
def rectCoversSpec : ChangeSpec := { name := "rectCovers", fn := fun _ => fun
  | [d1, d2] => { results := [.lit (.bool true)], args := [d1, d2] }
  | _ => none }
def rectCoversRow : OpenClaim := { program := "ytjckgkhojjnkdaa", sum := "d7b2d13d587a28a13deedb1bcb5dc598a5da520f93dbf016bcd71cc0cdcad2b1", func := "papermill/papermilllaw15.RectCovers", spec := "rectCovers", unfollowed := true, recurses := true, apart := false }
def RectCoversSaid : Prop := rectCoversRow.holds Try.pinned (OpenSpec.ofChange rectCoversSpec)

/-- ITS FALSE NEIGHBOUR: 'it returns false'. Refute it at one input. -/
def rectCoversWrong : ChangeSpec := { name := "rectCovers", fn := fun _ => fun
  | [d1, d2] => { results := [.lit (.bool false)], args := [d1, d2] }
  | _ => none }
def RectCoversWrongFalsely : Prop := rectCoversRow.holds Try.pinned (OpenSpec.ofChange rectCoversWrong)

/-- 'papermilllaw15.RectClips': WHATEVER THE INPUT: true; the input reads as it did. -/
def rectClipsSpec : ChangeSpec := { name := "rectClips", fn := fun _ => fun
  | [d1, d2] => { results := [.lit (.bool true)], args := [d1, d2] }
  | _ => none }
def rectClipsRow : OpenClaim := { program := "ytjckgkhojjnkdaa", sum := "d7b2d13d587a28a13deedb1bcb5dc598a5da520f93dbf016bcd71cc0cdcad2b1", func := "papermill/papermilllaw15.RectClips", spec := "rectClips", unfollowed := true, recurses := true, apart := false }
def RectClipsSaid : Prop := rectClipsRow.holds Try.pinned (OpenSpec.ofChange rectClipsSpec)

/-- ITS FALSE NEIGHBOUR: 'it returns false'. Refute it at one input. -/
def rectClipsWrong : ChangeSpec := { name := "rectClips", fn := fun _ => fun
  | [d1, d2] => { results := [.lit (.bool false)], args := [d1, d2] }
  | _ => none }
def RectClipsWrongFalsely : Prop := rectClipsRow.holds Try.pinned (OpenSpec.ofChange rectClipsWrong)

/-- 'papermilllaw15.RectSides': WHATEVER THE INPUT: true; the input reads as it did. -/
def rectSidesSpec : ChangeSpec := { name := "rectSides", fn := fun _ => fun
  | [d] => { results := [.lit (.bool true)], args := [d] }
  | _ => none }
def rectSidesRow : OpenClaim := { program := "ytjckgkhojjnkdaa", sum := "d7b2d13d587a28a13deedb1bcb5dc598a5da520f93dbf016bcd71cc0cdcad2b1", func := "papermill/papermilllaw15.RectSides", spec := "rectSides", unfollowed := true, recurses := true, apart := false }
def RectSidesSaid : Prop := rectSidesRow.holds Try.pinned (OpenSpec.ofChange rectSidesSpec)

/-- ITS FALSE NEIGHBOUR: 'it returns false'. Refute it at one input. -/
def rectSidesWrong : ChangeSpec := { name := "rectSides", fn := fun _ => fun
  | [d] => { results := [.lit (.bool false)], args := [d] }
  | _ => none }
def RectSidesWrongFalsely : Prop := rectSidesRow.holds Try.pinned (OpenSpec.ofChange rectSidesWrong)

/-- 'papermilllaw15.RectPairs': WHATEVER THE INPUT: true; the input reads as it did. -/
def rectPairsSpec : ChangeSpec := { name := "rectPairs", fn := fun _ => fun
  | [d1, d2] => { results := [.lit (.bool true)], args := [d1, d2] }
  | _ => none }
def rectPairsRow : OpenClaim := { program := "ytjckgkhojjnkdaa", sum := "d7b2d13d587a28a13deedb1bcb5dc598a5da520f93dbf016bcd71cc0cdcad2b1", func := "papermill/papermilllaw15.RectPairs", spec := "rectPairs", unfollowed := true, recurses := true, apart := false }
def RectPairsSaid : Prop := rectPairsRow.holds Try.pinned (OpenSpec.ofChange rectPairsSpec)

/-- ITS FALSE NEIGHBOUR: 'it returns false'. Refute it at one input. -/
def rectPairsWrong : ChangeSpec := { name := "rectPairs", fn := fun _ => fun
  | [d1, d2] => { results := [.lit (.bool false)], args := [d1, d2] }
  | _ => none }
def RectPairsWrongFalsely : Prop := rectPairsRow.holds Try.pinned (OpenSpec.ofChange rectPairsWrong)

/-- 'papermilllaw15.RectArea': WHATEVER THE INPUT: true; the input reads as it did. -/
def rectAreaSpec : ChangeSpec := { name := "rectArea", fn := fun _ => fun
  | [d1, d2] => { results := [.lit (.bool true)], args := [d1, d2] }
  | _ => none }
def rectAreaRow : OpenClaim := { program := "ytjckgkhojjnkdaa", sum := "d7b2d13d587a28a13deedb1bcb5dc598a5da520f93dbf016bcd71cc0cdcad2b1", func := "papermill/papermilllaw15.RectArea", spec := "rectArea", unfollowed := true, recurses := true, apart := false }
def RectAreaSaid : Prop := rectAreaRow.holds Try.pinned (OpenSpec.ofChange rectAreaSpec)

/-- ITS FALSE NEIGHBOUR: 'it returns false'. Refute it at one input. -/
def rectAreaWrong : ChangeSpec := { name := "rectArea", fn := fun _ => fun
  | [d1, d2] => { results := [.lit (.bool false)], args := [d1, d2] }
  | _ => none }
def RectAreaWrongFalsely : Prop := rectAreaRow.holds Try.pinned (OpenSpec.ofChange rectAreaWrong)

/-- 'papermilllaw15.RectTwo': WHATEVER THE INPUT: true; the input reads as it did. -/
def rectTwoSpec : ChangeSpec := { name := "rectTwo", fn := fun _ => fun
  | [d1, d2] => { results := [.lit (.bool true)], args := [d1, d2] }
  | _ => none }
def rectTwoRow : OpenClaim := { program := "ytjckgkhojjnkdaa", sum := "d7b2d13d587a28a13deedb1bcb5dc598a5da520f93dbf016bcd71cc0cdcad2b1", func := "papermill/papermilllaw15.RectTwo", spec := "rectTwo", unfollowed := true, recurses := true, apart := false }
def RectTwoSaid : Prop := rectTwoRow.holds Try.pinned (OpenSpec.ofChange rectTwoSpec)

/-- ITS FALSE NEIGHBOUR: 'it returns false'. Refute it at one input. -/
def rectTwoWrong : ChangeSpec := { name := "rectTwo", fn := fun _ => fun
  | [d1, d2] => { results := [.lit (.bool false)], args := [d1, d2] }
  | _ => none }
def RectTwoWrongFalsely : Prop := rectTwoRow.holds Try.pinned (OpenSpec.ofChange rectTwoWrong)

/-- 'papermilllaw15.RectDisjoint': WHATEVER THE INPUT: true; the input reads as it did. -/
def rectDisjointSpec : ChangeSpec := { name := "rectDisjoint", fn := fun _ => fun
  | [d] => { results := [.lit (.bool true)], args := [d] }
  | _ => none }
def rectDisjointRow : OpenClaim := { program := "ytjckgkhojjnkdaa", sum := "d7b2d13d587a28a13deedb1bcb5dc598a5da520f93dbf016bcd71cc0cdcad2b1", func := "papermill/papermilllaw15.RectDisjoint", spec := "rectDisjoint", unfollowed := true, recurses := true, apart := false }
def RectDisjointSaid : Prop := rectDisjointRow.holds Try.pinned (OpenSpec.ofChange rectDisjointSpec)

/-- ITS FALSE NEIGHBOUR: 'it returns false'. Refute it at one input. -/
def rectDisjointWrong : ChangeSpec := { name := "rectDisjoint", fn := fun _ => fun
  | [d] => { results := [.lit (.bool false)], args := [d] }
  | _ => none }
def RectDisjointWrongFalsely : Prop := rectDisjointRow.holds Try.pinned (OpenSpec.ofChange rectDisjointWrong)

/-- 'papermilllaw15.RectPoints': WHATEVER THE INPUT: true; the input reads as it did. -/
def rectPointsSpec : ChangeSpec := { name := "rectPoints", fn := fun _ => fun
  | [d1, d2, d3] => { results := [.lit (.bool true)], args := [d1, d2, d3] }
  | _ => none }
def rectPointsRow : OpenClaim := { program := "ytjckgkhojjnkdaa", sum := "d7b2d13d587a28a13deedb1bcb5dc598a5da520f93dbf016bcd71cc0cdcad2b1", func := "papermill/papermilllaw15.RectPoints", spec := "rectPoints", unfollowed := true, recurses := true, apart := false }
def RectPointsSaid : Prop := rectPointsRow.holds Try.pinned (OpenSpec.ofChange rectPointsSpec)

/-- ITS FALSE NEIGHBOUR: 'it returns false'. Refute it at one input. -/
def rectPointsWrong : ChangeSpec := { name := "rectPoints", fn := fun _ => fun
  | [d1, d2, d3] => { results := [.lit (.bool false)], args := [d1, d2, d3] }
  | _ => none }
def RectPointsWrongFalsely : Prop := rectPointsRow.holds Try.pinned (OpenSpec.ofChange rectPointsWrong)

/- THE SECOND FORM. 'bulk': how many values and letters a reading holds, each counted each time it is reached (what is shared counts as often as it is met; a slice's spare places count too). A statement '..UptoSaid' is the law's where the arguments, and the package variables that the reading takes, are together of bulk at most 1048576: NARROWER than '..Said'. Prove '..Said' where nothing that the law and all that it calls make is longer than what came in: it says more and counts as full. Else prove '..UptoSaid'. A law counts once. -/
mutual
def uptoBulk {H : Type} : DataW H → Nat
  | .lit (.string bytes) => bytes.length + 1
  | .lit _ => 1
  | .nil => 1
  | .ptr d => uptoBulk d + 1
  | .slice elems spare => uptoBulkAll elems + uptoBulkAll spare + 1
  | .agg parts => uptoBulkAll parts + 1
  | .iface _ d => uptoBulk d + 1
  | .map entries => uptoBulkEntries entries + 1
  | .held _ => 1
def uptoBulkAll {H : Type} : List (DataW H) → Nat
  | [] => 0
  | d :: r => uptoBulk d + uptoBulkAll r
def uptoBulkEntries {H : Type} : List (Lit × DataW H) → Nat
  | [] => 0
  | x :: r => uptoBulkEntry x + uptoBulkEntries r
def uptoBulkEntry {H : Type} : Lit × DataW H → Nat
  | (.string bytes, d) => bytes.length + uptoBulk d + 1
  | (_, d) => uptoBulk d + 1
 end
def uptoSmall : (H : Type) → List (DataW H) → Bool := fun _ ds => decide (uptoBulkAll ds ≤ 1048576)
def OpenSpec.upto (s : _root_.Go.ChangeSpec) : _root_.Go.OpenSpec := { _root_.Go.OpenSpec.ofChange s with cond := some uptoSmall }

/-- 'papermilllaw15.RectCovers', WHERE WHAT IT READS IS OF BULK AT MOST 1048576: true; the input reads as it did. -/
def rectCoversUptoRow : OpenClaim := { program := "ytjckgkhojjnkdaa", sum := "d7b2d13d587a28a13deedb1bcb5dc598a5da520f93dbf016bcd71cc0cdcad2b1", func := "papermill/papermilllaw15.RectCovers", spec := "rectCovers", unfollowed := true, recurses := true, apart := false, narrowed := true }
def RectCoversUptoSaid : Prop := rectCoversUptoRow.holds Try.pinned (OpenSpec.upto rectCoversSpec)

/-- 'papermilllaw15.RectClips', WHERE WHAT IT READS IS OF BULK AT MOST 1048576: true; the input reads as it did. -/
def rectClipsUptoRow : OpenClaim := { program := "ytjckgkhojjnkdaa", sum := "d7b2d13d587a28a13deedb1bcb5dc598a5da520f93dbf016bcd71cc0cdcad2b1", func := "papermill/papermilllaw15.RectClips", spec := "rectClips", unfollowed := true, recurses := true, apart := false, narrowed := true }
def RectClipsUptoSaid : Prop := rectClipsUptoRow.holds Try.pinned (OpenSpec.upto rectClipsSpec)

/-- 'papermilllaw15.RectSides', WHERE WHAT IT READS IS OF BULK AT MOST 1048576: true; the input reads as it did. -/
def rectSidesUptoRow : OpenClaim := { program := "ytjckgkhojjnkdaa", sum := "d7b2d13d587a28a13deedb1bcb5dc598a5da520f93dbf016bcd71cc0cdcad2b1", func := "papermill/papermilllaw15.RectSides", spec := "rectSides", unfollowed := true, recurses := true, apart := false, narrowed := true }
def RectSidesUptoSaid : Prop := rectSidesUptoRow.holds Try.pinned (OpenSpec.upto rectSidesSpec)

/-- 'papermilllaw15.RectPairs', WHERE WHAT IT READS IS OF BULK AT MOST 1048576: true; the input reads as it did. -/
def rectPairsUptoRow : OpenClaim := { program := "ytjckgkhojjnkdaa", sum := "d7b2d13d587a28a13deedb1bcb5dc598a5da520f93dbf016bcd71cc0cdcad2b1", func := "papermill/papermilllaw15.RectPairs", spec := "rectPairs", unfollowed := true, recurses := true, apart := false, narrowed := true }
def RectPairsUptoSaid : Prop := rectPairsUptoRow.holds Try.pinned (OpenSpec.upto rectPairsSpec)

/-- 'papermilllaw15.RectArea', WHERE WHAT IT READS IS OF BULK AT MOST 1048576: true; the input reads as it did. -/
def rectAreaUptoRow : OpenClaim := { program := "ytjckgkhojjnkdaa", sum := "d7b2d13d587a28a13deedb1bcb5dc598a5da520f93dbf016bcd71cc0cdcad2b1", func := "papermill/papermilllaw15.RectArea", spec := "rectArea", unfollowed := true, recurses := true, apart := false, narrowed := true }
def RectAreaUptoSaid : Prop := rectAreaUptoRow.holds Try.pinned (OpenSpec.upto rectAreaSpec)

/-- 'papermilllaw15.RectTwo', WHERE WHAT IT READS IS OF BULK AT MOST 1048576: true; the input reads as it did. -/
def rectTwoUptoRow : OpenClaim := { program := "ytjckgkhojjnkdaa", sum := "d7b2d13d587a28a13deedb1bcb5dc598a5da520f93dbf016bcd71cc0cdcad2b1", func := "papermill/papermilllaw15.RectTwo", spec := "rectTwo", unfollowed := true, recurses := true, apart := false, narrowed := true }
def RectTwoUptoSaid : Prop := rectTwoUptoRow.holds Try.pinned (OpenSpec.upto rectTwoSpec)

/-- 'papermilllaw15.RectDisjoint', WHERE WHAT IT READS IS OF BULK AT MOST 1048576: true; the input reads as it did. -/
def rectDisjointUptoRow : OpenClaim := { program := "ytjckgkhojjnkdaa", sum := "d7b2d13d587a28a13deedb1bcb5dc598a5da520f93dbf016bcd71cc0cdcad2b1", func := "papermill/papermilllaw15.RectDisjoint", spec := "rectDisjoint", unfollowed := true, recurses := true, apart := false, narrowed := true }
def RectDisjointUptoSaid : Prop := rectDisjointUptoRow.holds Try.pinned (OpenSpec.upto rectDisjointSpec)

/-- 'papermilllaw15.RectPoints', WHERE WHAT IT READS IS OF BULK AT MOST 1048576: true; the input reads as it did. -/
def rectPointsUptoRow : OpenClaim := { program := "ytjckgkhojjnkdaa", sum := "d7b2d13d587a28a13deedb1bcb5dc598a5da520f93dbf016bcd71cc0cdcad2b1", func := "papermill/papermilllaw15.RectPoints", spec := "rectPoints", unfollowed := true, recurses := true, apart := false, narrowed := true }
def RectPointsUptoSaid : Prop := rectPointsUptoRow.holds Try.pinned (OpenSpec.upto rectPointsSpec)

end Rows
end Go.Proofs.Ytjckgkhojjnkdaa
