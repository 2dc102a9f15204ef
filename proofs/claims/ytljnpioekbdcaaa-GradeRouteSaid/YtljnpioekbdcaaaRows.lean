/-
  No cell of these rows narrows 'for every input' (looked for: loops, veiled, ifaces, maps, wideKeys, modest, calm, conditions, laid).
  DERIVED. THE GIVEN ROWS OF THIS SEAT. 7 by the template 'for every input the law returns true; each argument reads behind the call as it read before'; 0 by the template 'total and deterministic' (their statements: YtljnpioekbdcaaaTotals.lean).
  GIVEN WITH THE SEED: the statements are not yours to turn. If you find one false, say at which input.
  Laid BY PROGRAM, IN A SANDBOX (cutbox-rows.mjs): the forced cells as the released guide's own fill.sh prints them over the translation 1ff115b7c4731f18… (all of the seat's roots in one cut). By AI agents, Wed Nov 11 2026. No macro, syntax, notation, axiom, sorry.
-/
import Derived.Test.YtljnpioekbdcaaaChecked
import GoSem.Claim
import GoSem.ClaimJoined
import GoSem.ClaimMapViews
import Derived.JoinedTies
import Derived.KernelRfl
namespace Go.Proofs.Ytljnpioekbdcaaa
/- THE CELL 'sum', in the pinned program and in every row, IS THE sha256 OF THE DUMP (.gsa) THAT YtljnpioekbdcaaaProg.lean LOADS. Nothing in Lean hashes anything: it is a label: what it is worth is what the hold of that sum in a sandbox is worth. -/
noncomputable def Try.pinned : Pinned := { name := "ytljnpioekbdcaaa", sum := "1ff115b7c4731f180077fd3930f07cf5948319986aa480e4c71a7e4e9b2dc6c9", checked := Try.checked }
namespace Rows
def none {H : Type} : Left H := { results := [], args := [] }

/-- 'papermilllaw31.GradeChecks': WHATEVER THE INPUT: true; the input reads as it did. -/
def gradeChecksSpec : ChangeSpec := { name := "gradeChecks", fn := fun _ => fun
  | [d1, d2] => { results := [.lit (.bool true)], args := [d1, d2] }
  | _ => none }
def gradeChecksRow : OpenClaim := { program := "ytljnpioekbdcaaa", sum := "1ff115b7c4731f180077fd3930f07cf5948319986aa480e4c71a7e4e9b2dc6c9", func := "papermill/papermilllaw31.GradeChecks", spec := "gradeChecks", unfollowed := true, recurses := true, apart := false }
def GradeChecksSaid : Prop := gradeChecksRow.holds Try.pinned (OpenSpec.ofChange gradeChecksSpec)

/-- ITS FALSE NEIGHBOUR: 'it returns false'. Refute it at one input. -/
def gradeChecksWrong : ChangeSpec := { name := "gradeChecks", fn := fun _ => fun
  | [d1, d2] => { results := [.lit (.bool false)], args := [d1, d2] }
  | _ => none }
def GradeChecksWrongFalsely : Prop := gradeChecksRow.holds Try.pinned (OpenSpec.ofChange gradeChecksWrong)

/-- 'papermilllaw31.GradeFinds': WHATEVER THE INPUT: true; the input reads as it did. -/
def gradeFindsSpec : ChangeSpec := { name := "gradeFinds", fn := fun _ => fun
  | [d1, d2] => { results := [.lit (.bool true)], args := [d1, d2] }
  | _ => none }
def gradeFindsRow : OpenClaim := { program := "ytljnpioekbdcaaa", sum := "1ff115b7c4731f180077fd3930f07cf5948319986aa480e4c71a7e4e9b2dc6c9", func := "papermill/papermilllaw31.GradeFinds", spec := "gradeFinds", unfollowed := true, recurses := true, apart := false }
def GradeFindsSaid : Prop := gradeFindsRow.holds Try.pinned (OpenSpec.ofChange gradeFindsSpec)

/-- ITS FALSE NEIGHBOUR: 'it returns false'. Refute it at one input. -/
def gradeFindsWrong : ChangeSpec := { name := "gradeFinds", fn := fun _ => fun
  | [d1, d2] => { results := [.lit (.bool false)], args := [d1, d2] }
  | _ => none }
def GradeFindsWrongFalsely : Prop := gradeFindsRow.holds Try.pinned (OpenSpec.ofChange gradeFindsWrong)

/-- 'papermilllaw31.GradeMeets': WHATEVER THE INPUT: true; the input reads as it did. -/
def gradeMeetsSpec : ChangeSpec := { name := "gradeMeets", fn := fun _ => fun
  | [d1, d2, d3] => { results := [.lit (.bool true)], args := [d1, d2, d3] }
  | _ => none }
def gradeMeetsRow : OpenClaim := { program := "ytljnpioekbdcaaa", sum := "1ff115b7c4731f180077fd3930f07cf5948319986aa480e4c71a7e4e9b2dc6c9", func := "papermill/papermilllaw31.GradeMeets", spec := "gradeMeets", unfollowed := true, recurses := true, apart := false }
def GradeMeetsSaid : Prop := gradeMeetsRow.holds Try.pinned (OpenSpec.ofChange gradeMeetsSpec)

/-- ITS FALSE NEIGHBOUR: 'it returns false'. Refute it at one input. -/
def gradeMeetsWrong : ChangeSpec := { name := "gradeMeets", fn := fun _ => fun
  | [d1, d2, d3] => { results := [.lit (.bool false)], args := [d1, d2, d3] }
  | _ => none }
def GradeMeetsWrongFalsely : Prop := gradeMeetsRow.holds Try.pinned (OpenSpec.ofChange gradeMeetsWrong)

/-- 'papermilllaw31.GradeSteps': WHATEVER THE INPUT: true; the input reads as it did. -/
def gradeStepsSpec : ChangeSpec := { name := "gradeSteps", fn := fun _ => fun
  | [d1, d2] => { results := [.lit (.bool true)], args := [d1, d2] }
  | _ => none }
def gradeStepsRow : OpenClaim := { program := "ytljnpioekbdcaaa", sum := "1ff115b7c4731f180077fd3930f07cf5948319986aa480e4c71a7e4e9b2dc6c9", func := "papermill/papermilllaw31.GradeSteps", spec := "gradeSteps", unfollowed := true, recurses := true, apart := false }
def GradeStepsSaid : Prop := gradeStepsRow.holds Try.pinned (OpenSpec.ofChange gradeStepsSpec)

/-- ITS FALSE NEIGHBOUR: 'it returns false'. Refute it at one input. -/
def gradeStepsWrong : ChangeSpec := { name := "gradeSteps", fn := fun _ => fun
  | [d1, d2] => { results := [.lit (.bool false)], args := [d1, d2] }
  | _ => none }
def GradeStepsWrongFalsely : Prop := gradeStepsRow.holds Try.pinned (OpenSpec.ofChange gradeStepsWrong)

/-- 'papermilllaw31.GradeRoutes': WHATEVER THE INPUT: true; the input reads as it did. -/
def gradeRoutesSpec : ChangeSpec := { name := "gradeRoutes", fn := fun _ => fun
  | [d1, d2, d3] => { results := [.lit (.bool true)], args := [d1, d2, d3] }
  | _ => none }
def gradeRoutesRow : OpenClaim := { program := "ytljnpioekbdcaaa", sum := "1ff115b7c4731f180077fd3930f07cf5948319986aa480e4c71a7e4e9b2dc6c9", func := "papermill/papermilllaw31.GradeRoutes", spec := "gradeRoutes", unfollowed := true, recurses := true, apart := false }
def GradeRoutesSaid : Prop := gradeRoutesRow.holds Try.pinned (OpenSpec.ofChange gradeRoutesSpec)

/-- ITS FALSE NEIGHBOUR: 'it returns false'. Refute it at one input. -/
def gradeRoutesWrong : ChangeSpec := { name := "gradeRoutes", fn := fun _ => fun
  | [d1, d2, d3] => { results := [.lit (.bool false)], args := [d1, d2, d3] }
  | _ => none }
def GradeRoutesWrongFalsely : Prop := gradeRoutesRow.holds Try.pinned (OpenSpec.ofChange gradeRoutesWrong)

/-- 'papermilllaw31.GradeRoute': WHATEVER THE INPUT: true; the input reads as it did. -/
def gradeRouteSpec : ChangeSpec := { name := "gradeRoute", fn := fun _ => fun
  | [d1, d2, d3, d4] => { results := [.lit (.bool true)], args := [d1, d2, d3, d4] }
  | _ => none }
def gradeRouteRow : OpenClaim := { program := "ytljnpioekbdcaaa", sum := "1ff115b7c4731f180077fd3930f07cf5948319986aa480e4c71a7e4e9b2dc6c9", func := "papermill/papermilllaw31.GradeRoute", spec := "gradeRoute", unfollowed := true, recurses := true, apart := false }
def GradeRouteSaid : Prop := gradeRouteRow.holds Try.pinned (OpenSpec.ofChange gradeRouteSpec)

/-- ITS FALSE NEIGHBOUR: 'it returns false'. Refute it at one input. -/
def gradeRouteWrong : ChangeSpec := { name := "gradeRoute", fn := fun _ => fun
  | [d1, d2, d3, d4] => { results := [.lit (.bool false)], args := [d1, d2, d3, d4] }
  | _ => none }
def GradeRouteWrongFalsely : Prop := gradeRouteRow.holds Try.pinned (OpenSpec.ofChange gradeRouteWrong)

/-- 'papermilllaw31.GradeShares': WHATEVER THE INPUT: true; the input reads as it did. -/
def gradeSharesSpec : ChangeSpec := { name := "gradeShares", fn := fun _ => fun
  | [d1, d2, d3] => { results := [.lit (.bool true)], args := [d1, d2, d3] }
  | _ => none }
def gradeSharesRow : OpenClaim := { program := "ytljnpioekbdcaaa", sum := "1ff115b7c4731f180077fd3930f07cf5948319986aa480e4c71a7e4e9b2dc6c9", func := "papermill/papermilllaw31.GradeShares", spec := "gradeShares", unfollowed := true, recurses := true, apart := false }
def GradeSharesSaid : Prop := gradeSharesRow.holds Try.pinned (OpenSpec.ofChange gradeSharesSpec)

/-- ITS FALSE NEIGHBOUR: 'it returns false'. Refute it at one input. -/
def gradeSharesWrong : ChangeSpec := { name := "gradeShares", fn := fun _ => fun
  | [d1, d2, d3] => { results := [.lit (.bool false)], args := [d1, d2, d3] }
  | _ => none }
def GradeSharesWrongFalsely : Prop := gradeSharesRow.holds Try.pinned (OpenSpec.ofChange gradeSharesWrong)

/- THE SECOND FORM. 'bulk': how many values and letters a reading holds, each counted each time it is reached (what is shared counts as often as it is met; a slice's spare places count too). A statement '..UptoSaid' is the law's where the arguments, and the package variables that the reading takes, are together of bulk at most 1048576: NARROWER than '..Said'. Prove '..Said' where nothing that the law and all that it calls make is longer than what came in: it says more and counts as full. Else prove '..UptoSaid'. A law counts once. -/
mutual
def uptoBulk {H : Type} : DataW H → Nat
  | .lit (.string bytes) => bytes.length + 1
  | .lit _ => 1
  | .nil => 1
  | .ptr d => uptoBulk d + 1
  | .slice elems spare => uptoBulkAll elems + uptoBulkAll spare + 1
  | .agg parts => uptoBulkAll parts + 1
  | .iface _ d => uptoBulk d + 1
  | .map entries => uptoBulkEntries entries + 1
  | .held _ => 1
def uptoBulkAll {H : Type} : List (DataW H) → Nat
  | [] => 0
  | d :: r => uptoBulk d + uptoBulkAll r
def uptoBulkEntries {H : Type} : List (Lit × DataW H) → Nat
  | [] => 0
  | x :: r => uptoBulkEntry x + uptoBulkEntries r
def uptoBulkEntry {H : Type} : Lit × DataW H → Nat
  | (.string bytes, d) => bytes.length + uptoBulk d + 1
  | (_, d) => uptoBulk d + 1
 end
def uptoSmall : (H : Type) → List (DataW H) → Bool := fun _ ds => decide (uptoBulkAll ds ≤ 1048576)
def OpenSpec.upto (s : _root_.Go.ChangeSpec) : _root_.Go.OpenSpec := { _root_.Go.OpenSpec.ofChange s with cond := some uptoSmall }

/-- 'papermilllaw31.GradeChecks', WHERE WHAT IT READS IS OF BULK AT MOST 1048576: true; the input reads as it did. -/
def gradeChecksUptoRow : OpenClaim := { program := "ytljnpioekbdcaaa", sum := "1ff115b7c4731f180077fd3930f07cf5948319986aa480e4c71a7e4e9b2dc6c9", func := "papermill/papermilllaw31.GradeChecks", spec := "gradeChecks", unfollowed := true, recurses := true, apart := false, narrowed := true }
def GradeChecksUptoSaid : Prop := gradeChecksUptoRow.holds Try.pinned (OpenSpec.upto gradeChecksSpec)

/-- 'papermilllaw31.GradeFinds', WHERE WHAT IT READS IS OF BULK AT MOST 1048576: true; the input reads as it did. -/
def gradeFindsUptoRow : OpenClaim := { program := "ytljnpioekbdcaaa", sum := "1ff115b7c4731f180077fd3930f07cf5948319986aa480e4c71a7e4e9b2dc6c9", func := "papermill/papermilllaw31.GradeFinds", spec := "gradeFinds", unfollowed := true, recurses := true, apart := false, narrowed := true }
def GradeFindsUptoSaid : Prop := gradeFindsUptoRow.holds Try.pinned (OpenSpec.upto gradeFindsSpec)

/-- 'papermilllaw31.GradeMeets', WHERE WHAT IT READS IS OF BULK AT MOST 1048576: true; the input reads as it did. -/
def gradeMeetsUptoRow : OpenClaim := { program := "ytljnpioekbdcaaa", sum := "1ff115b7c4731f180077fd3930f07cf5948319986aa480e4c71a7e4e9b2dc6c9", func := "papermill/papermilllaw31.GradeMeets", spec := "gradeMeets", unfollowed := true, recurses := true, apart := false, narrowed := true }
def GradeMeetsUptoSaid : Prop := gradeMeetsUptoRow.holds Try.pinned (OpenSpec.upto gradeMeetsSpec)

/-- 'papermilllaw31.GradeSteps', WHERE WHAT IT READS IS OF BULK AT MOST 1048576: true; the input reads as it did. -/
def gradeStepsUptoRow : OpenClaim := { program := "ytljnpioekbdcaaa", sum := "1ff115b7c4731f180077fd3930f07cf5948319986aa480e4c71a7e4e9b2dc6c9", func := "papermill/papermilllaw31.GradeSteps", spec := "gradeSteps", unfollowed := true, recurses := true, apart := false, narrowed := true }
def GradeStepsUptoSaid : Prop := gradeStepsUptoRow.holds Try.pinned (OpenSpec.upto gradeStepsSpec)

/-- 'papermilllaw31.GradeRoutes', WHERE WHAT IT READS IS OF BULK AT MOST 1048576: true; the input reads as it did. -/
def gradeRoutesUptoRow : OpenClaim := { program := "ytljnpioekbdcaaa", sum := "1ff115b7c4731f180077fd3930f07cf5948319986aa480e4c71a7e4e9b2dc6c9", func := "papermill/papermilllaw31.GradeRoutes", spec := "gradeRoutes", unfollowed := true, recurses := true, apart := false, narrowed := true }
def GradeRoutesUptoSaid : Prop := gradeRoutesUptoRow.holds Try.pinned (OpenSpec.upto gradeRoutesSpec)

/-- 'papermilllaw31.GradeRoute', WHERE WHAT IT READS IS OF BULK AT MOST 1048576: true; the input reads as it did. -/
def gradeRouteUptoRow : OpenClaim := { program := "ytljnpioekbdcaaa", sum := "1ff115b7c4731f180077fd3930f07cf5948319986aa480e4c71a7e4e9b2dc6c9", func := "papermill/papermilllaw31.GradeRoute", spec := "gradeRoute", unfollowed := true, recurses := true, apart := false, narrowed := true }
def GradeRouteUptoSaid : Prop := gradeRouteUptoRow.holds Try.pinned (OpenSpec.upto gradeRouteSpec)

/-- 'papermilllaw31.GradeShares', WHERE WHAT IT READS IS OF BULK AT MOST 1048576: true; the input reads as it did. -/
def gradeSharesUptoRow : OpenClaim := { program := "ytljnpioekbdcaaa", sum := "1ff115b7c4731f180077fd3930f07cf5948319986aa480e4c71a7e4e9b2dc6c9", func := "papermill/papermilllaw31.GradeShares", spec := "gradeShares", unfollowed := true, recurses := true, apart := false, narrowed := true }
def GradeSharesUptoSaid : Prop := gradeSharesUptoRow.holds Try.pinned (OpenSpec.upto gradeSharesSpec)

end Rows
end Go.Proofs.Ytljnpioekbdcaaa
