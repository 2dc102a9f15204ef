/- GradeSteps returns true at every input: Steps returns the specified differences, or the error. No conditions. -/
import Derived.Test.YtljnpioekbdcaaaRows
import Derived.Test.YtljnpioekbdcaaaCmpLaw
set_option linter.unusedVariables false
set_option linter.unusedSimpArgs false
namespace Go.Proofs.Ytljnpioekbdcaaa
open Go Go.Eng Go.RowKit Go.ChangeShapes
set_option maxRecDepth 100000
theorem Try.own : ownKnob Try.prog.godebug = none := by kernel_rfl
theorem Try.laidOut : laidOutB Try.prog = true := by kernel_rfl
theorem fitG {row : List C} (h : FitR [.str, .int .i64, .int .i64, .int .i64, .int .i64, .int .i64, .sl [.int .i64], .int .i64] row) : ∃ n b bt m mt c r p, row = [.str n, .int .i64 b, .int .i64 bt, .int .i64 m, .int .i64 mt, .int .i64 c, .sl [.int .i64] r, .int .i64 p] ∧ V.I64 b ∧ V.I64 bt ∧ V.I64 m ∧ V.I64 mt := by
  match row, h with
  | [.str n, .int k1 b, .int k2 bt, .int k3 m, .int k4 mt, .int k5 c, .sl l r, .int k6 p], h =>
    simp only [FitR, FitC] at h
    obtain ⟨_, ⟨rfl, h1⟩, ⟨rfl, h2⟩, ⟨rfl, h3⟩, ⟨rfl, h4⟩, ⟨rfl, _⟩, ⟨rfl, _⟩, ⟨rfl, _⟩, _⟩ := h
    exact ⟨n, b, bt, m, mt, c, r, p, rfl, h1, h2, h3, h4⟩

theorem law_pure (rows : List (List C)) (h : FitA [(true, [.str, .int .i64, .int .i64, .int .i64, .int .i64, .int .i64, .sl [.int .i64], .int .i64]), (true, [.str, .int .i64, .int .i64, .int .i64, .int .i64, .int .i64, .sl [.int .i64], .int .i64])] rows) : PureC Try.prog 6 [(false, [.bool])] (argL [(true, [.str, .int .i64, .int .i64, .int .i64, .int .i64, .int .i64, .sl [.int .i64], .int .i64]), (true, [.str, .int .i64, .int .i64, .int .i64, .int .i64, .int .i64, .sl [.int .i64], .int .i64])] rows) fun _ => .bool true := by
  match rows, h with
  | [r1, r2], h =>
    obtain ⟨h1, h2, _⟩ := h
    obtain ⟨n, b, bt, m, mt, c, r, p, rfl, a1, a2, a3, a4⟩ := fitG h1
    obtain ⟨n', b', bt', m', mt', c', r', p', rfl, b1, b2, b3, b4⟩ := fitG h2
    exact V.p6 .. 
theorem f_lifted (os : Os) (started : os.Started) (H : Type) (enc : TypeId × Value → H) :
    ReturnsInHanded {} Try.checked os 6 .any (Rows.gradeStepsSpec.pre6 enc Try.prog Try.f6 Rows.gradeStepsRow.domain false) (Rows.gradeStepsSpec.post enc Try.prog Try.f6 false true false false) := by
  refine returnsInHanded_of_change (C := Try.checked) Try.own started (by kernel_rfl) Try.func6
    (ChangeSpec.witness6 (enc := enc) (C := Try.checked) false ⟨#[], #[.agg #[.string ⟨#[]⟩, .int .i64 0, .int .i64 0, .int .i64 0, .int .i64 0, .int .i64 0, .slice none 0 0, .int .i64 0], .agg #[.string ⟨#[]⟩, .int .i64 0, .int .i64 0, .int .i64 0, .int .i64 0, .int .i64 0, .slice none 0 0, .int .i64 0]], []⟩ 8 (by kernel_rfl) (by kernel_rfl) (by kernel_rfl) (by kernel_rfl)) ?_
  intro W base args ds gs before hval hW _ _
  refine law_contract (P := Try.prog) (lays := [(true, [.str, .int .i64, .int .i64, .int .i64, .int .i64, .int .i64, .sl [.int .i64], .int .i64]), (true, [.str, .int .i64, .int .i64, .int .i64, .int .i64, .int .i64, .sl [.int .i64], .int .i64])]) Try.laidOut (by kernel_rfl) rfl (by kernel_rfl) (t := 4) (by kernel_rfl) (of_decide_eq_true (by kernel_rfl)) ?_ law_pure hval hW
  intro ds hl
  have hs : Try.f6.params.size = 2 := by kernel_rfl
  rw [hs] at hl
  match ds, hl with
  | [_, _], _ => rfl
theorem steps_holds : Rows.GradeStepsSaid :=
  OpenClaim.holds_of_wide 6 Try.f6 rfl rfl rfl rfl rfl rfl rfl ⟨rfl, rfl, rfl, rfl, rfl⟩ rfl rfl rfl rfl rfl (by kernel_rfl) Try.func6 (by kernel_rfl)
    (of_decide_eq_true (by kernel_rfl)) (by unfold Func.isWrapper; rw [if_neg (by decide +kernel)]; exact ⟨rfl, rfl⟩)
    (fun os started H enc _ => f_lifted os started H enc)
end Go.Proofs.Ytljnpioekbdcaaa
