/- RectSides returns true at every input: Along and Across return the specified spans, or errors, and Disjoint reports what is specified, for at most 70 rectangles. No conditions. -/
import Derived.Test.YtjckgkhojjnkdaaRows
import Derived.Test.YtjckgkhojjnkdaaSides
set_option linter.unusedVariables false
set_option linter.unusedSimpArgs false
namespace Go.Proofs.Ytjckgkhojjnkdaa
open Go Go.Eng Go.RowKit Go.ChangeShapes
set_option maxRecDepth 100000
theorem Try.own : ownKnob Try.prog.godebug = none := by kernel_rfl
theorem Try.laidOut : laidOutB Try.prog = true := by kernel_rfl
theorem fitL {lay : List LK} {row : List C} (h : FitR [.sl lay] row) : ∃ xs, row = [.sl lay xs] ∧ xs.length ≤ 9223372036854775807 ∧ ∀ r ∈ xs, FitR lay r := by
  match row, h with
  | [.sl l xs], h =>
    simp only [FitR, FitC] at h
    obtain ⟨⟨rfl, h1, h2⟩, _⟩ := h
    exact ⟨xs, rfl, Nat.le_trans h1 (by decide), h2⟩

theorem law_pure (rows : List (List C)) (h : FitA [(false, [.sl [.int .i64, .int .i64, .int .i64, .int .i64]])] rows) : PureC Try.prog 5 [(false, [.bool])] (argL [(false, [.sl [.int .i64, .int .i64, .int .i64, .int .i64]])] rows) fun _ => .bool true := by
  match rows, h with
  | [r1], h =>
    obtain ⟨h1, _⟩ := h
    obtain ⟨xs, rfl, _, hx⟩ := fitL h1
    obtain ⟨rs, rfl⟩ := V.rows_R hx
    exact V.p5
theorem f_lifted (os : Os) (started : os.Started) (H : Type) (enc : TypeId × Value → H) :
    ReturnsInHanded {} Try.checked os 5 .any (Rows.rectSidesSpec.pre6 enc Try.prog Try.f5 Rows.rectSidesRow.domain false) (Rows.rectSidesSpec.post enc Try.prog Try.f5 false true false false) := by
  refine returnsInHanded_of_change (C := Try.checked) Try.own started (by kernel_rfl) Try.func5
    (ChangeSpec.witness6 (enc := enc) (C := Try.checked) false ⟨#[], #[.slice none 0 0], []⟩ 8 (by kernel_rfl) (by kernel_rfl) (by kernel_rfl) (by kernel_rfl)) ?_
  intro W base args ds gs before hval hW _ _
  refine law_contract (P := Try.prog) (lays := [(false, [.sl [.int .i64, .int .i64, .int .i64, .int .i64]])]) Try.laidOut (by kernel_rfl) rfl (by kernel_rfl) (t := 4) (by kernel_rfl) (of_decide_eq_true (by kernel_rfl)) ?_ law_pure hval hW
  intro ds hl
  have hs : Try.f5.params.size = 1 := by kernel_rfl
  rw [hs] at hl
  match ds, hl with
  | [_], _ => rfl
theorem sides_holds : Rows.RectSidesSaid :=
  OpenClaim.holds_of_wide 5 Try.f5 rfl rfl rfl rfl rfl rfl rfl ⟨rfl, rfl, rfl, rfl, rfl⟩ rfl rfl rfl rfl rfl (by kernel_rfl) Try.func5 (by kernel_rfl)
    (of_decide_eq_true (by kernel_rfl)) (by unfold Func.isWrapper; rw [if_neg (by decide +kernel)]; exact ⟨rfl, rfl⟩)
    (fun os started H enc _ => f_lifted os started H enc)
end Go.Proofs.Ytjckgkhojjnkdaa
