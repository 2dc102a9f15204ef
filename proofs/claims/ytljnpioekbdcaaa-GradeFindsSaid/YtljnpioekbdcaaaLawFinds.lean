/- GradeFinds returns true at every input: Find returns the first grade with a name. No conditions. -/
import Derived.Test.YtljnpioekbdcaaaRows
import Derived.Test.YtljnpioekbdcaaaChkLaw
set_option linter.unusedVariables false
set_option linter.unusedSimpArgs false
namespace Go.Proofs.Ytljnpioekbdcaaa
open Go Go.Eng Go.RowKit Go.ChangeShapes
set_option maxRecDepth 100000
theorem Try.own : ownKnob Try.prog.godebug = none := by kernel_rfl
theorem Try.laidOut : laidOutB Try.prog = true := by kernel_rfl
theorem fitS {row : List C} (h : FitR [.str] row) : ∃ s, row = [.str s] := by
  match row, h with
  | [.str s], h => exact ⟨s, rfl⟩
theorem fitL {lay : List LK} {row : List C} (h : FitR [.sl lay] row) : ∃ xs, row = [.sl lay xs] ∧ xs.length ≤ 9223372036854775807 ∧ ∀ r ∈ xs, FitR lay r := by
  match row, h with
  | [.sl l xs], h =>
    simp only [FitR, FitC] at h
    obtain ⟨⟨rfl, h1, h2⟩, _⟩ := h
    exact ⟨xs, rfl, Nat.le_trans h1 (by decide), h2⟩

theorem law_pure (rows : List (List C)) (h : FitA [(false, [.sl [.str, .int .i64, .int .i64, .int .i64, .int .i64, .int .i64, .sl [.int .i64], .int .i64]]), (false, [.str])] rows) : PureC Try.prog 4 [(false, [.bool])] (argL [(false, [.sl [.str, .int .i64, .int .i64, .int .i64, .int .i64, .int .i64, .sl [.int .i64], .int .i64]]), (false, [.str])] rows) fun _ => .bool true := by
  match rows, h with
  | [r1, r2], h =>
    obtain ⟨h1, h2, _⟩ := h
    obtain ⟨xs, rfl, hl, hx⟩ := fitL h1
    obtain ⟨s, rfl⟩ := fitS h2
    exact V.p4 xs s
theorem f_lifted (os : Os) (started : os.Started) (H : Type) (enc : TypeId × Value → H) :
    ReturnsInHanded {} Try.checked os 4 .any (Rows.gradeFindsSpec.pre6 enc Try.prog Try.f4 Rows.gradeFindsRow.domain false) (Rows.gradeFindsSpec.post enc Try.prog Try.f4 false true false false) := by
  refine returnsInHanded_of_change (C := Try.checked) Try.own started (by kernel_rfl) Try.func4
    (ChangeSpec.witness6 (enc := enc) (C := Try.checked) false ⟨#[], #[.slice none 0 0, .string ⟨#[]⟩], []⟩ 8 (by kernel_rfl) (by kernel_rfl) (by kernel_rfl) (by kernel_rfl)) ?_
  intro W base args ds gs before hval hW _ _
  refine law_contract (P := Try.prog) (lays := [(false, [.sl [.str, .int .i64, .int .i64, .int .i64, .int .i64, .int .i64, .sl [.int .i64], .int .i64]]), (false, [.str])]) Try.laidOut (by kernel_rfl) rfl (by kernel_rfl) (t := 4) (by kernel_rfl) (of_decide_eq_true (by kernel_rfl)) ?_ law_pure hval hW
  intro ds hl
  have hs : Try.f4.params.size = 2 := by kernel_rfl
  rw [hs] at hl
  match ds, hl with
  | [_, _], _ => rfl
theorem finds_holds : Rows.GradeFindsSaid :=
  OpenClaim.holds_of_wide 4 Try.f4 rfl rfl rfl rfl rfl rfl rfl ⟨rfl, rfl, rfl, rfl, rfl⟩ rfl rfl rfl rfl rfl (by kernel_rfl) Try.func4 (by kernel_rfl)
    (of_decide_eq_true (by kernel_rfl)) (by unfold Func.isWrapper; rw [if_neg (by decide +kernel)]; exact ⟨rfl, rfl⟩)
    (fun os started H enc _ => f_lifted os started H enc)
end Go.Proofs.Ytljnpioekbdcaaa
