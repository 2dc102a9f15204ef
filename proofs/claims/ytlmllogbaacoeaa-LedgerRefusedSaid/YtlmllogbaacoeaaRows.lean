/-
  No cell of these rows narrows 'for every input' (looked for: loops, veiled, ifaces, maps, wideKeys, modest, calm, conditions, laid).
  DERIVED. THE GIVEN ROWS OF THIS SEAT. 9 by the template 'for every input the law returns true; each argument reads behind the call as it read before'; 0 by the template 'total and deterministic' (their statements: YtlmllogbaacoeaaTotals.lean).
  GIVEN WITH THE SEED: the statements are not yours to turn. If you find one false, say at which input.
  Laid BY PROGRAM, IN A SANDBOX (cutbox-rows.mjs): the forced cells as the released guide's own fill.sh prints them over the translation cfd8c5d10d943716… (all of the seat's roots in one cut). By AI agents, Wed Nov 11 2026. No macro, syntax, notation, axiom, sorry.
-/
import Derived.Test.YtlmllogbaacoeaaChecked
import GoSem.Claim
import GoSem.ClaimJoined
import GoSem.ClaimMapViews
import Derived.JoinedTies
import Derived.KernelRfl
namespace Go.Proofs.Ytlmllogbaacoeaa
/- THE CELL 'sum', in the pinned program and in every row, IS THE sha256 OF THE DUMP (.gsa) THAT YtlmllogbaacoeaaProg.lean LOADS. Nothing in Lean hashes anything: it is a label: what it is worth is what the hold of that sum in a sandbox is worth. -/
noncomputable def Try.pinned : Pinned := { name := "ytlmllogbaacoeaa", sum := "cfd8c5d10d94371669a769afdf8c6826f27e4096feb21efdda4b56171565a9fa", checked := Try.checked }
namespace Rows
def none {H : Type} : Left H := { results := [], args := [] }

/-- 'papermilllaw58.LedgerChecks': WHATEVER THE INPUT: true; the input reads as it did. -/
def ledgerChecksSpec : ChangeSpec := { name := "ledgerChecks", fn := fun _ => fun
  | [d] => { results := [.lit (.bool true)], args := [d] }
  | _ => none }
def ledgerChecksRow : OpenClaim := { program := "ytlmllogbaacoeaa", sum := "cfd8c5d10d94371669a769afdf8c6826f27e4096feb21efdda4b56171565a9fa", func := "papermill/papermilllaw58.LedgerChecks", spec := "ledgerChecks", unfollowed := true, recurses := true, apart := false }
def LedgerChecksSaid : Prop := ledgerChecksRow.holds Try.pinned (OpenSpec.ofChange ledgerChecksSpec)

/-- ITS FALSE NEIGHBOUR: 'it returns false'. Refute it at one input. -/
def ledgerChecksWrong : ChangeSpec := { name := "ledgerChecks", fn := fun _ => fun
  | [d] => { results := [.lit (.bool false)], args := [d] }
  | _ => none }
def LedgerChecksWrongFalsely : Prop := ledgerChecksRow.holds Try.pinned (OpenSpec.ofChange ledgerChecksWrong)

/-- 'papermilllaw58.LedgerPosts': WHATEVER THE INPUT: true; the input reads as it did. -/
def ledgerPostsSpec : ChangeSpec := { name := "ledgerPosts", fn := fun _ => fun
  | [d] => { results := [.lit (.bool true)], args := [d] }
  | _ => none }
def ledgerPostsRow : OpenClaim := { program := "ytlmllogbaacoeaa", sum := "cfd8c5d10d94371669a769afdf8c6826f27e4096feb21efdda4b56171565a9fa", func := "papermill/papermilllaw58.LedgerPosts", spec := "ledgerPosts", unfollowed := true, recurses := true, apart := false }
def LedgerPostsSaid : Prop := ledgerPostsRow.holds Try.pinned (OpenSpec.ofChange ledgerPostsSpec)

/-- ITS FALSE NEIGHBOUR: 'it returns false'. Refute it at one input. -/
def ledgerPostsWrong : ChangeSpec := { name := "ledgerPosts", fn := fun _ => fun
  | [d] => { results := [.lit (.bool false)], args := [d] }
  | _ => none }
def LedgerPostsWrongFalsely : Prop := ledgerPostsRow.holds Try.pinned (OpenSpec.ofChange ledgerPostsWrong)

/-- 'papermilllaw58.LedgerBalances': WHATEVER THE INPUT: true; the input reads as it did. -/
def ledgerBalancesSpec : ChangeSpec := { name := "ledgerBalances", fn := fun _ => fun
  | [d1, d2, d3] => { results := [.lit (.bool true)], args := [d1, d2, d3] }
  | _ => none }
def ledgerBalancesRow : OpenClaim := { program := "ytlmllogbaacoeaa", sum := "cfd8c5d10d94371669a769afdf8c6826f27e4096feb21efdda4b56171565a9fa", func := "papermill/papermilllaw58.LedgerBalances", spec := "ledgerBalances", unfollowed := true, recurses := true, apart := false }
def LedgerBalancesSaid : Prop := ledgerBalancesRow.holds Try.pinned (OpenSpec.ofChange ledgerBalancesSpec)

/-- ITS FALSE NEIGHBOUR: 'it returns false'. Refute it at one input. -/
def ledgerBalancesWrong : ChangeSpec := { name := "ledgerBalances", fn := fun _ => fun
  | [d1, d2, d3] => { results := [.lit (.bool false)], args := [d1, d2, d3] }
  | _ => none }
def LedgerBalancesWrongFalsely : Prop := ledgerBalancesRow.holds Try.pinned (OpenSpec.ofChange ledgerBalancesWrong)

/-- 'papermilllaw58.LedgerZero': WHATEVER THE INPUT: true; the input reads as it did. -/
def ledgerZeroSpec : ChangeSpec := { name := "ledgerZero", fn := fun _ => fun
  | [d1, d2] => { results := [.lit (.bool true)], args := [d1, d2] }
  | _ => none }
def ledgerZeroRow : OpenClaim := { program := "ytlmllogbaacoeaa", sum := "cfd8c5d10d94371669a769afdf8c6826f27e4096feb21efdda4b56171565a9fa", func := "papermill/papermilllaw58.LedgerZero", spec := "ledgerZero", unfollowed := true, recurses := true, apart := false }
def LedgerZeroSaid : Prop := ledgerZeroRow.holds Try.pinned (OpenSpec.ofChange ledgerZeroSpec)

/-- ITS FALSE NEIGHBOUR: 'it returns false'. Refute it at one input. -/
def ledgerZeroWrong : ChangeSpec := { name := "ledgerZero", fn := fun _ => fun
  | [d1, d2] => { results := [.lit (.bool false)], args := [d1, d2] }
  | _ => none }
def LedgerZeroWrongFalsely : Prop := ledgerZeroRow.holds Try.pinned (OpenSpec.ofChange ledgerZeroWrong)

/-- 'papermilllaw58.LedgerBefore': WHATEVER THE INPUT: true; the input reads as it did. -/
def ledgerBeforeSpec : ChangeSpec := { name := "ledgerBefore", fn := fun _ => fun
  | [d1, d2, d3] => { results := [.lit (.bool true)], args := [d1, d2, d3] }
  | _ => none }
def ledgerBeforeRow : OpenClaim := { program := "ytlmllogbaacoeaa", sum := "cfd8c5d10d94371669a769afdf8c6826f27e4096feb21efdda4b56171565a9fa", func := "papermill/papermilllaw58.LedgerBefore", spec := "ledgerBefore", unfollowed := true, recurses := true, apart := false }
def LedgerBeforeSaid : Prop := ledgerBeforeRow.holds Try.pinned (OpenSpec.ofChange ledgerBeforeSpec)

/-- ITS FALSE NEIGHBOUR: 'it returns false'. Refute it at one input. -/
def ledgerBeforeWrong : ChangeSpec := { name := "ledgerBefore", fn := fun _ => fun
  | [d1, d2, d3] => { results := [.lit (.bool false)], args := [d1, d2, d3] }
  | _ => none }
def LedgerBeforeWrongFalsely : Prop := ledgerBeforeRow.holds Try.pinned (OpenSpec.ofChange ledgerBeforeWrong)

/-- 'papermilllaw58.LedgerRefused': WHATEVER THE INPUT: true; the input reads as it did. -/
def ledgerRefusedSpec : ChangeSpec := { name := "ledgerRefused", fn := fun _ => fun
  | [d1, d2] => { results := [.lit (.bool true)], args := [d1, d2] }
  | _ => none }
def ledgerRefusedRow : OpenClaim := { program := "ytlmllogbaacoeaa", sum := "cfd8c5d10d94371669a769afdf8c6826f27e4096feb21efdda4b56171565a9fa", func := "papermill/papermilllaw58.LedgerRefused", spec := "ledgerRefused", unfollowed := true, recurses := true, apart := false }
def LedgerRefusedSaid : Prop := ledgerRefusedRow.holds Try.pinned (OpenSpec.ofChange ledgerRefusedSpec)

/-- ITS FALSE NEIGHBOUR: 'it returns false'. Refute it at one input. -/
def ledgerRefusedWrong : ChangeSpec := { name := "ledgerRefused", fn := fun _ => fun
  | [d1, d2] => { results := [.lit (.bool false)], args := [d1, d2] }
  | _ => none }
def LedgerRefusedWrongFalsely : Prop := ledgerRefusedRow.holds Try.pinned (OpenSpec.ofChange ledgerRefusedWrong)

/-- 'papermilllaw58.LedgerFull': WHATEVER THE INPUT: true; the input reads as it did. -/
def ledgerFullSpec : ChangeSpec := { name := "ledgerFull", fn := fun _ => fun
  | [d1, d2] => { results := [.lit (.bool true)], args := [d1, d2] }
  | _ => none }
def ledgerFullRow : OpenClaim := { program := "ytlmllogbaacoeaa", sum := "cfd8c5d10d94371669a769afdf8c6826f27e4096feb21efdda4b56171565a9fa", func := "papermill/papermilllaw58.LedgerFull", spec := "ledgerFull", unfollowed := true, recurses := true, apart := false }
def LedgerFullSaid : Prop := ledgerFullRow.holds Try.pinned (OpenSpec.ofChange ledgerFullSpec)

/-- ITS FALSE NEIGHBOUR: 'it returns false'. Refute it at one input. -/
def ledgerFullWrong : ChangeSpec := { name := "ledgerFull", fn := fun _ => fun
  | [d1, d2] => { results := [.lit (.bool false)], args := [d1, d2] }
  | _ => none }
def LedgerFullWrongFalsely : Prop := ledgerFullRow.holds Try.pinned (OpenSpec.ofChange ledgerFullWrong)

/-- 'papermilllaw58.LedgerCopies': WHATEVER THE INPUT: true; the input reads as it did. -/
def ledgerCopiesSpec : ChangeSpec := { name := "ledgerCopies", fn := fun _ => fun
  | [d1, d2] => { results := [.lit (.bool true)], args := [d1, d2] }
  | _ => none }
def ledgerCopiesRow : OpenClaim := { program := "ytlmllogbaacoeaa", sum := "cfd8c5d10d94371669a769afdf8c6826f27e4096feb21efdda4b56171565a9fa", func := "papermill/papermilllaw58.LedgerCopies", spec := "ledgerCopies", unfollowed := true, recurses := true, apart := false }
def LedgerCopiesSaid : Prop := ledgerCopiesRow.holds Try.pinned (OpenSpec.ofChange ledgerCopiesSpec)

/-- ITS FALSE NEIGHBOUR: 'it returns false'. Refute it at one input. -/
def ledgerCopiesWrong : ChangeSpec := { name := "ledgerCopies", fn := fun _ => fun
  | [d1, d2] => { results := [.lit (.bool false)], args := [d1, d2] }
  | _ => none }
def LedgerCopiesWrongFalsely : Prop := ledgerCopiesRow.holds Try.pinned (OpenSpec.ofChange ledgerCopiesWrong)

/-- 'papermilllaw58.LedgerNil': WHATEVER THE INPUT: true; the input reads as it did. -/
def ledgerNilSpec : ChangeSpec := { name := "ledgerNil", fn := fun _ => fun
  | [d1, d2, d3] => { results := [.lit (.bool true)], args := [d1, d2, d3] }
  | _ => none }
def ledgerNilRow : OpenClaim := { program := "ytlmllogbaacoeaa", sum := "cfd8c5d10d94371669a769afdf8c6826f27e4096feb21efdda4b56171565a9fa", func := "papermill/papermilllaw58.LedgerNil", spec := "ledgerNil", unfollowed := true, recurses := true, apart := false }
def LedgerNilSaid : Prop := ledgerNilRow.holds Try.pinned (OpenSpec.ofChange ledgerNilSpec)

/-- ITS FALSE NEIGHBOUR: 'it returns false'. Refute it at one input. -/
def ledgerNilWrong : ChangeSpec := { name := "ledgerNil", fn := fun _ => fun
  | [d1, d2, d3] => { results := [.lit (.bool false)], args := [d1, d2, d3] }
  | _ => none }
def LedgerNilWrongFalsely : Prop := ledgerNilRow.holds Try.pinned (OpenSpec.ofChange ledgerNilWrong)

/- THE SECOND FORM. 'bulk': how many values and letters a reading holds, each counted each time it is reached (what is shared counts as often as it is met; a slice's spare places count too). A statement '..UptoSaid' is the law's where the arguments, and the package variables that the reading takes, are together of bulk at most 1048576: NARROWER than '..Said'. Prove '..Said' where nothing that the law and all that it calls make is longer than what came in: it says more and counts as full. Else prove '..UptoSaid'. A law counts once. -/
mutual
def uptoBulk {H : Type} : DataW H → Nat
  | .lit (.string bytes) => bytes.length + 1
  | .lit _ => 1
  | .nil => 1
  | .ptr d => uptoBulk d + 1
  | .slice elems spare => uptoBulkAll elems + uptoBulkAll spare + 1
  | .agg parts => uptoBulkAll parts + 1
  | .iface _ d => uptoBulk d + 1
  | .map entries => uptoBulkEntries entries + 1
  | .held _ => 1
def uptoBulkAll {H : Type} : List (DataW H) → Nat
  | [] => 0
  | d :: r => uptoBulk d + uptoBulkAll r
def uptoBulkEntries {H : Type} : List (Lit × DataW H) → Nat
  | [] => 0
  | x :: r => uptoBulkEntry x + uptoBulkEntries r
def uptoBulkEntry {H : Type} : Lit × DataW H → Nat
  | (.string bytes, d) => bytes.length + uptoBulk d + 1
  | (_, d) => uptoBulk d + 1
 end
def uptoSmall : (H : Type) → List (DataW H) → Bool := fun _ ds => decide (uptoBulkAll ds ≤ 1048576)
def OpenSpec.upto (s : _root_.Go.ChangeSpec) : _root_.Go.OpenSpec := { _root_.Go.OpenSpec.ofChange s with cond := some uptoSmall }

/-- 'papermilllaw58.LedgerChecks', WHERE WHAT IT READS IS OF BULK AT MOST 1048576: true; the input reads as it did. -/
def ledgerChecksUptoRow : OpenClaim := { program := "ytlmllogbaacoeaa", sum := "cfd8c5d10d94371669a769afdf8c6826f27e4096feb21efdda4b56171565a9fa", func := "papermill/papermilllaw58.LedgerChecks", spec := "ledgerChecks", unfollowed := true, recurses := true, apart := false, narrowed := true }
def LedgerChecksUptoSaid : Prop := ledgerChecksUptoRow.holds Try.pinned (OpenSpec.upto ledgerChecksSpec)

/-- 'papermilllaw58.LedgerPosts', WHERE WHAT IT READS IS OF BULK AT MOST 1048576: true; the input reads as it did. -/
def ledgerPostsUptoRow : OpenClaim := { program := "ytlmllogbaacoeaa", sum := "cfd8c5d10d94371669a769afdf8c6826f27e4096feb21efdda4b56171565a9fa", func := "papermill/papermilllaw58.LedgerPosts", spec := "ledgerPosts", unfollowed := true, recurses := true, apart := false, narrowed := true }
def LedgerPostsUptoSaid : Prop := ledgerPostsUptoRow.holds Try.pinned (OpenSpec.upto ledgerPostsSpec)

/-- 'papermilllaw58.LedgerBalances', WHERE WHAT IT READS IS OF BULK AT MOST 1048576: true; the input reads as it did. -/
def ledgerBalancesUptoRow : OpenClaim := { program := "ytlmllogbaacoeaa", sum := "cfd8c5d10d94371669a769afdf8c6826f27e4096feb21efdda4b56171565a9fa", func := "papermill/papermilllaw58.LedgerBalances", spec := "ledgerBalances", unfollowed := true, recurses := true, apart := false, narrowed := true }
def LedgerBalancesUptoSaid : Prop := ledgerBalancesUptoRow.holds Try.pinned (OpenSpec.upto ledgerBalancesSpec)

/-- 'papermilllaw58.LedgerZero', WHERE WHAT IT READS IS OF BULK AT MOST 1048576: true; the input reads as it did. -/
def ledgerZeroUptoRow : OpenClaim := { program := "ytlmllogbaacoeaa", sum := "cfd8c5d10d94371669a769afdf8c6826f27e4096feb21efdda4b56171565a9fa", func := "papermill/papermilllaw58.LedgerZero", spec := "ledgerZero", unfollowed := true, recurses := true, apart := false, narrowed := true }
def LedgerZeroUptoSaid : Prop := ledgerZeroUptoRow.holds Try.pinned (OpenSpec.upto ledgerZeroSpec)

/-- 'papermilllaw58.LedgerBefore', WHERE WHAT IT READS IS OF BULK AT MOST 1048576: true; the input reads as it did. -/
def ledgerBeforeUptoRow : OpenClaim := { program := "ytlmllogbaacoeaa", sum := "cfd8c5d10d94371669a769afdf8c6826f27e4096feb21efdda4b56171565a9fa", func := "papermill/papermilllaw58.LedgerBefore", spec := "ledgerBefore", unfollowed := true, recurses := true, apart := false, narrowed := true }
def LedgerBeforeUptoSaid : Prop := ledgerBeforeUptoRow.holds Try.pinned (OpenSpec.upto ledgerBeforeSpec)

/-- 'papermilllaw58.LedgerRefused', WHERE WHAT IT READS IS OF BULK AT MOST 1048576: true; the input reads as it did. -/
def ledgerRefusedUptoRow : OpenClaim := { program := "ytlmllogbaacoeaa", sum := "cfd8c5d10d94371669a769afdf8c6826f27e4096feb21efdda4b56171565a9fa", func := "papermill/papermilllaw58.LedgerRefused", spec := "ledgerRefused", unfollowed := true, recurses := true, apart := false, narrowed := true }
def LedgerRefusedUptoSaid : Prop := ledgerRefusedUptoRow.holds Try.pinned (OpenSpec.upto ledgerRefusedSpec)

/-- 'papermilllaw58.LedgerFull', WHERE WHAT IT READS IS OF BULK AT MOST 1048576: true; the input reads as it did. -/
def ledgerFullUptoRow : OpenClaim := { program := "ytlmllogbaacoeaa", sum := "cfd8c5d10d94371669a769afdf8c6826f27e4096feb21efdda4b56171565a9fa", func := "papermill/papermilllaw58.LedgerFull", spec := "ledgerFull", unfollowed := true, recurses := true, apart := false, narrowed := true }
def LedgerFullUptoSaid : Prop := ledgerFullUptoRow.holds Try.pinned (OpenSpec.upto ledgerFullSpec)

/-- 'papermilllaw58.LedgerCopies', WHERE WHAT IT READS IS OF BULK AT MOST 1048576: true; the input reads as it did. -/
def ledgerCopiesUptoRow : OpenClaim := { program := "ytlmllogbaacoeaa", sum := "cfd8c5d10d94371669a769afdf8c6826f27e4096feb21efdda4b56171565a9fa", func := "papermill/papermilllaw58.LedgerCopies", spec := "ledgerCopies", unfollowed := true, recurses := true, apart := false, narrowed := true }
def LedgerCopiesUptoSaid : Prop := ledgerCopiesUptoRow.holds Try.pinned (OpenSpec.upto ledgerCopiesSpec)

/-- 'papermilllaw58.LedgerNil', WHERE WHAT IT READS IS OF BULK AT MOST 1048576: true; the input reads as it did. -/
def ledgerNilUptoRow : OpenClaim := { program := "ytlmllogbaacoeaa", sum := "cfd8c5d10d94371669a769afdf8c6826f27e4096feb21efdda4b56171565a9fa", func := "papermill/papermilllaw58.LedgerNil", spec := "ledgerNil", unfollowed := true, recurses := true, apart := false, narrowed := true }
def LedgerNilUptoSaid : Prop := ledgerNilUptoRow.holds Try.pinned (OpenSpec.upto ledgerNilSpec)

end Rows
end Go.Proofs.Ytlmllogbaacoeaa
