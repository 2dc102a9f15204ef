/-
  No cell of these rows narrows 'for every input' (looked for: loops, veiled, ifaces, maps, wideKeys, modest, calm, conditions, laid).
  DERIVED. THE GIVEN ROWS OF THIS SEAT. 7 by the template 'for every input the law returns true; each argument reads behind the call as it read before'; 0 by the template 'total and deterministic' (their statements: YtniijahjfbgfpaaTotals.lean).
  GIVEN WITH THE SEED: the statements are not yours to turn. If you find one false, say at which input.
  Laid BY PROGRAM, IN A SANDBOX (cutbox-rows.mjs): the forced cells as the released guide's own fill.sh prints them over the translation 71c57c48ad59dd46… (all of the seat's roots in one cut). By AI agents, Wed Nov 11 2026. No macro, syntax, notation, axiom, sorry.
-/
import Derived.Test.YtniijahjfbgfpaaChecked
import GoSem.Claim
import GoSem.ClaimJoined
import GoSem.ClaimMapViews
import Derived.JoinedTies
import Derived.KernelRfl
namespace Go.Proofs.Ytniijahjfbgfpaa
/- THE CELL 'sum', in the pinned program and in every row, IS THE sha256 OF THE DUMP (.gsa) THAT YtniijahjfbgfpaaProg.lean LOADS. Nothing in Lean hashes anything: it is a label: what it is worth is what the hold of that sum in a sandbox is worth. -/
noncomputable def Try.pinned : Pinned := { name := "ytniijahjfbgfpaa", sum := "71c57c48ad59dd46571a79bde748fa0bbd27c790c7ff5305da01fe20f2fc4a38", checked := Try.checked }
namespace Rows
def none {H : Type} : Left H := { results := [], args := [] }

/-- 'papermilllaw54.StoreCalls': WHATEVER THE INPUT: true; the input reads as it did. -/
def storeCallsSpec : ChangeSpec := { name := "storeCalls", fn := fun _ => fun
  | [d1, d2] => { results := [.lit (.bool true)], args := [d1, d2] }
  | _ => none }
def storeCallsRow : OpenClaim := { program := "ytniijahjfbgfpaa", sum := "71c57c48ad59dd46571a79bde748fa0bbd27c790c7ff5305da01fe20f2fc4a38", func := "papermill/papermilllaw54.StoreCalls", spec := "storeCalls", unfollowed := true, recurses := true, apart := false }
def StoreCallsSaid : Prop := storeCallsRow.holds Try.pinned (OpenSpec.ofChange storeCallsSpec)

/-- ITS FALSE NEIGHBOUR: 'it returns false'. Refute it at one input. -/
def storeCallsWrong : ChangeSpec := { name := "storeCalls", fn := fun _ => fun
  | [d1, d2] => { results := [.lit (.bool false)], args := [d1, d2] }
  | _ => none }
def StoreCallsWrongFalsely : Prop := storeCallsRow.holds Try.pinned (OpenSpec.ofChange storeCallsWrong)

/-- 'papermilllaw54.StoreFinds': WHATEVER THE INPUT: true; the input reads as it did. -/
def storeFindsSpec : ChangeSpec := { name := "storeFinds", fn := fun _ => fun
  | [d1, d2, d3] => { results := [.lit (.bool true)], args := [d1, d2, d3] }
  | _ => none }
def storeFindsRow : OpenClaim := { program := "ytniijahjfbgfpaa", sum := "71c57c48ad59dd46571a79bde748fa0bbd27c790c7ff5305da01fe20f2fc4a38", func := "papermill/papermilllaw54.StoreFinds", spec := "storeFinds", unfollowed := true, recurses := true, apart := false }
def StoreFindsSaid : Prop := storeFindsRow.holds Try.pinned (OpenSpec.ofChange storeFindsSpec)

/-- ITS FALSE NEIGHBOUR: 'it returns false'. Refute it at one input. -/
def storeFindsWrong : ChangeSpec := { name := "storeFinds", fn := fun _ => fun
  | [d1, d2, d3] => { results := [.lit (.bool false)], args := [d1, d2, d3] }
  | _ => none }
def StoreFindsWrongFalsely : Prop := storeFindsRow.holds Try.pinned (OpenSpec.ofChange storeFindsWrong)

/-- 'papermilllaw54.StoreOldest': WHATEVER THE INPUT: true; the input reads as it did. -/
def storeOldestSpec : ChangeSpec := { name := "storeOldest", fn := fun _ => fun
  | [d1, d2] => { results := [.lit (.bool true)], args := [d1, d2] }
  | _ => none }
def storeOldestRow : OpenClaim := { program := "ytniijahjfbgfpaa", sum := "71c57c48ad59dd46571a79bde748fa0bbd27c790c7ff5305da01fe20f2fc4a38", func := "papermill/papermilllaw54.StoreOldest", spec := "storeOldest", unfollowed := true, recurses := true, apart := false }
def StoreOldestSaid : Prop := storeOldestRow.holds Try.pinned (OpenSpec.ofChange storeOldestSpec)

/-- ITS FALSE NEIGHBOUR: 'it returns false'. Refute it at one input. -/
def storeOldestWrong : ChangeSpec := { name := "storeOldest", fn := fun _ => fun
  | [d1, d2] => { results := [.lit (.bool false)], args := [d1, d2] }
  | _ => none }
def StoreOldestWrongFalsely : Prop := storeOldestRow.holds Try.pinned (OpenSpec.ofChange storeOldestWrong)

/-- 'papermilllaw54.StoreEmpties': WHATEVER THE INPUT: true; the input reads as it did. -/
def storeEmptiesSpec : ChangeSpec := { name := "storeEmpties", fn := fun _ => fun
  | [d1, d2, d3] => { results := [.lit (.bool true)], args := [d1, d2, d3] }
  | _ => none }
def storeEmptiesRow : OpenClaim := { program := "ytniijahjfbgfpaa", sum := "71c57c48ad59dd46571a79bde748fa0bbd27c790c7ff5305da01fe20f2fc4a38", func := "papermill/papermilllaw54.StoreEmpties", spec := "storeEmpties", unfollowed := true, recurses := true, apart := false }
def StoreEmptiesSaid : Prop := storeEmptiesRow.holds Try.pinned (OpenSpec.ofChange storeEmptiesSpec)

/-- ITS FALSE NEIGHBOUR: 'it returns false'. Refute it at one input. -/
def storeEmptiesWrong : ChangeSpec := { name := "storeEmpties", fn := fun _ => fun
  | [d1, d2, d3] => { results := [.lit (.bool false)], args := [d1, d2, d3] }
  | _ => none }
def StoreEmptiesWrongFalsely : Prop := storeEmptiesRow.holds Try.pinned (OpenSpec.ofChange storeEmptiesWrong)

/-- 'papermilllaw54.StoreRefused': WHATEVER THE INPUT: true; the input reads as it did. -/
def storeRefusedSpec : ChangeSpec := { name := "storeRefused", fn := fun _ => fun
  | [d1, d2, d3] => { results := [.lit (.bool true)], args := [d1, d2, d3] }
  | _ => none }
def storeRefusedRow : OpenClaim := { program := "ytniijahjfbgfpaa", sum := "71c57c48ad59dd46571a79bde748fa0bbd27c790c7ff5305da01fe20f2fc4a38", func := "papermill/papermilllaw54.StoreRefused", spec := "storeRefused", unfollowed := true, recurses := true, apart := false }
def StoreRefusedSaid : Prop := storeRefusedRow.holds Try.pinned (OpenSpec.ofChange storeRefusedSpec)

/-- ITS FALSE NEIGHBOUR: 'it returns false'. Refute it at one input. -/
def storeRefusedWrong : ChangeSpec := { name := "storeRefused", fn := fun _ => fun
  | [d1, d2, d3] => { results := [.lit (.bool false)], args := [d1, d2, d3] }
  | _ => none }
def StoreRefusedWrongFalsely : Prop := storeRefusedRow.holds Try.pinned (OpenSpec.ofChange storeRefusedWrong)

/-- 'papermilllaw54.StoreLast': WHATEVER THE INPUT: true; the input reads as it did. -/
def storeLastSpec : ChangeSpec := { name := "storeLast", fn := fun _ => fun
  | [d1, d2, d3] => { results := [.lit (.bool true)], args := [d1, d2, d3] }
  | _ => none }
def storeLastRow : OpenClaim := { program := "ytniijahjfbgfpaa", sum := "71c57c48ad59dd46571a79bde748fa0bbd27c790c7ff5305da01fe20f2fc4a38", func := "papermill/papermilllaw54.StoreLast", spec := "storeLast", unfollowed := true, recurses := true, apart := false }
def StoreLastSaid : Prop := storeLastRow.holds Try.pinned (OpenSpec.ofChange storeLastSpec)

/-- ITS FALSE NEIGHBOUR: 'it returns false'. Refute it at one input. -/
def storeLastWrong : ChangeSpec := { name := "storeLast", fn := fun _ => fun
  | [d1, d2, d3] => { results := [.lit (.bool false)], args := [d1, d2, d3] }
  | _ => none }
def StoreLastWrongFalsely : Prop := storeLastRow.holds Try.pinned (OpenSpec.ofChange storeLastWrong)

/-- 'papermilllaw54.StoreNil': WHATEVER THE INPUT: true; the input reads as it did. -/
def storeNilSpec : ChangeSpec := { name := "storeNil", fn := fun _ => fun
  | [d] => { results := [.lit (.bool true)], args := [d] }
  | _ => none }
def storeNilRow : OpenClaim := { program := "ytniijahjfbgfpaa", sum := "71c57c48ad59dd46571a79bde748fa0bbd27c790c7ff5305da01fe20f2fc4a38", func := "papermill/papermilllaw54.StoreNil", spec := "storeNil", unfollowed := true, recurses := true, apart := false }
def StoreNilSaid : Prop := storeNilRow.holds Try.pinned (OpenSpec.ofChange storeNilSpec)

/-- ITS FALSE NEIGHBOUR: 'it returns false'. Refute it at one input. -/
def storeNilWrong : ChangeSpec := { name := "storeNil", fn := fun _ => fun
  | [d] => { results := [.lit (.bool false)], args := [d] }
  | _ => none }
def StoreNilWrongFalsely : Prop := storeNilRow.holds Try.pinned (OpenSpec.ofChange storeNilWrong)

/- THE SECOND FORM. 'bulk': how many values and letters a reading holds, each counted each time it is reached (what is shared counts as often as it is met; a slice's spare places count too). A statement '..UptoSaid' is the law's where the arguments, and the package variables that the reading takes, are together of bulk at most 1048576: NARROWER than '..Said'. Prove '..Said' where nothing that the law and all that it calls make is longer than what came in: it says more and counts as full. Else prove '..UptoSaid'. A law counts once. -/
mutual
def uptoBulk {H : Type} : DataW H → Nat
  | .lit (.string bytes) => bytes.length + 1
  | .lit _ => 1
  | .nil => 1
  | .ptr d => uptoBulk d + 1
  | .slice elems spare => uptoBulkAll elems + uptoBulkAll spare + 1
  | .agg parts => uptoBulkAll parts + 1
  | .iface _ d => uptoBulk d + 1
  | .map entries => uptoBulkEntries entries + 1
  | .held _ => 1
def uptoBulkAll {H : Type} : List (DataW H) → Nat
  | [] => 0
  | d :: r => uptoBulk d + uptoBulkAll r
def uptoBulkEntries {H : Type} : List (Lit × DataW H) → Nat
  | [] => 0
  | x :: r => uptoBulkEntry x + uptoBulkEntries r
def uptoBulkEntry {H : Type} : Lit × DataW H → Nat
  | (.string bytes, d) => bytes.length + uptoBulk d + 1
  | (_, d) => uptoBulk d + 1
 end
def uptoSmall : (H : Type) → List (DataW H) → Bool := fun _ ds => decide (uptoBulkAll ds ≤ 1048576)
def OpenSpec.upto (s : _root_.Go.ChangeSpec) : _root_.Go.OpenSpec := { _root_.Go.OpenSpec.ofChange s with cond := some uptoSmall }

/-- 'papermilllaw54.StoreCalls', WHERE WHAT IT READS IS OF BULK AT MOST 1048576: true; the input reads as it did. -/
def storeCallsUptoRow : OpenClaim := { program := "ytniijahjfbgfpaa", sum := "71c57c48ad59dd46571a79bde748fa0bbd27c790c7ff5305da01fe20f2fc4a38", func := "papermill/papermilllaw54.StoreCalls", spec := "storeCalls", unfollowed := true, recurses := true, apart := false, narrowed := true }
def StoreCallsUptoSaid : Prop := storeCallsUptoRow.holds Try.pinned (OpenSpec.upto storeCallsSpec)

/-- 'papermilllaw54.StoreFinds', WHERE WHAT IT READS IS OF BULK AT MOST 1048576: true; the input reads as it did. -/
def storeFindsUptoRow : OpenClaim := { program := "ytniijahjfbgfpaa", sum := "71c57c48ad59dd46571a79bde748fa0bbd27c790c7ff5305da01fe20f2fc4a38", func := "papermill/papermilllaw54.StoreFinds", spec := "storeFinds", unfollowed := true, recurses := true, apart := false, narrowed := true }
def StoreFindsUptoSaid : Prop := storeFindsUptoRow.holds Try.pinned (OpenSpec.upto storeFindsSpec)

/-- 'papermilllaw54.StoreOldest', WHERE WHAT IT READS IS OF BULK AT MOST 1048576: true; the input reads as it did. -/
def storeOldestUptoRow : OpenClaim := { program := "ytniijahjfbgfpaa", sum := "71c57c48ad59dd46571a79bde748fa0bbd27c790c7ff5305da01fe20f2fc4a38", func := "papermill/papermilllaw54.StoreOldest", spec := "storeOldest", unfollowed := true, recurses := true, apart := false, narrowed := true }
def StoreOldestUptoSaid : Prop := storeOldestUptoRow.holds Try.pinned (OpenSpec.upto storeOldestSpec)

/-- 'papermilllaw54.StoreEmpties', WHERE WHAT IT READS IS OF BULK AT MOST 1048576: true; the input reads as it did. -/
def storeEmptiesUptoRow : OpenClaim := { program := "ytniijahjfbgfpaa", sum := "71c57c48ad59dd46571a79bde748fa0bbd27c790c7ff5305da01fe20f2fc4a38", func := "papermill/papermilllaw54.StoreEmpties", spec := "storeEmpties", unfollowed := true, recurses := true, apart := false, narrowed := true }
def StoreEmptiesUptoSaid : Prop := storeEmptiesUptoRow.holds Try.pinned (OpenSpec.upto storeEmptiesSpec)

/-- 'papermilllaw54.StoreRefused', WHERE WHAT IT READS IS OF BULK AT MOST 1048576: true; the input reads as it did. -/
def storeRefusedUptoRow : OpenClaim := { program := "ytniijahjfbgfpaa", sum := "71c57c48ad59dd46571a79bde748fa0bbd27c790c7ff5305da01fe20f2fc4a38", func := "papermill/papermilllaw54.StoreRefused", spec := "storeRefused", unfollowed := true, recurses := true, apart := false, narrowed := true }
def StoreRefusedUptoSaid : Prop := storeRefusedUptoRow.holds Try.pinned (OpenSpec.upto storeRefusedSpec)

/-- 'papermilllaw54.StoreLast', WHERE WHAT IT READS IS OF BULK AT MOST 1048576: true; the input reads as it did. -/
def storeLastUptoRow : OpenClaim := { program := "ytniijahjfbgfpaa", sum := "71c57c48ad59dd46571a79bde748fa0bbd27c790c7ff5305da01fe20f2fc4a38", func := "papermill/papermilllaw54.StoreLast", spec := "storeLast", unfollowed := true, recurses := true, apart := false, narrowed := true }
def StoreLastUptoSaid : Prop := storeLastUptoRow.holds Try.pinned (OpenSpec.upto storeLastSpec)

/-- 'papermilllaw54.StoreNil', WHERE WHAT IT READS IS OF BULK AT MOST 1048576: true; the input reads as it did. -/
def storeNilUptoRow : OpenClaim := { program := "ytniijahjfbgfpaa", sum := "71c57c48ad59dd46571a79bde748fa0bbd27c790c7ff5305da01fe20f2fc4a38", func := "papermill/papermilllaw54.StoreNil", spec := "storeNil", unfollowed := true, recurses := true, apart := false, narrowed := true }
def StoreNilUptoSaid : Prop := storeNilUptoRow.holds Try.pinned (OpenSpec.upto storeNilSpec)

end Rows
end Go.Proofs.Ytniijahjfbgfpaa
