/- GradeShares returns true at every input: a grade permits its own target values; Same does not depend on the order, and is true if a reading meets both. No conditions. -/
import Derived.Test.YtljnpioekbdcaaaRows
import Derived.Test.YtljnpioekbdcaaaCmpLaw
set_option linter.unusedVariables false
set_option linter.unusedSimpArgs false
namespace Go.Proofs.Ytljnpioekbdcaaa
open Go Go.Eng Go.RowKit Go.ChangeShapes
set_option maxRecDepth 100000
theorem Try.own : ownKnob Try.prog.godebug = none := by kernel_rfl
theorem Try.laidOut : laidOutB Try.prog = true := by kernel_rfl
theorem fit2 {row : List C} (h : FitR [.int .i64, .int .i64] row) : ∃ a b, row = [.int .i64 a, .int .i64 b] ∧ V.I64 a ∧ V.I64 b := by
  match row, h with
  | [.int k1 a, .int k2 b], h =>
    simp only [FitR, FitC] at h
    obtain ⟨⟨rfl, h1⟩, ⟨rfl, h2⟩, _⟩ := h
    exact ⟨a, b, rfl, h1, h2⟩
theorem fitG {row : List C} (h : FitR [.str, .int .i64, .int .i64, .int .i64, .int .i64, .int .i64, .sl [.int .i64], .int .i64] row) : ∃ n b bt m mt c r p, row = [.str n, .int .i64 b, .int .i64 bt, .int .i64 m, .int .i64 mt, .int .i64 c, .sl [.int .i64] r, .int .i64 p] ∧ V.I64 b ∧ V.I64 bt ∧ V.I64 m ∧ V.I64 mt := by
  match row, h with
  | [.str n, .int k1 b, .int k2 bt, .int k3 m, .int k4 mt, .int k5 c, .sl l r, .int k6 p], h =>
    simp only [FitR, FitC] at h
    obtain ⟨_, ⟨rfl, h1⟩, ⟨rfl, h2⟩, ⟨rfl, h3⟩, ⟨rfl, h4⟩, ⟨rfl, _⟩, ⟨rfl, _⟩, ⟨rfl, _⟩, _⟩ := h
    exact ⟨n, b, bt, m, mt, c, r, p, rfl, h1, h2, h3, h4⟩

theorem law_pure (rows : List (List C)) (h : FitA [(true, [.str, .int .i64, .int .i64, .int .i64, .int .i64, .int .i64, .sl [.int .i64], .int .i64]), (true, [.str, .int .i64, .int .i64, .int .i64, .int .i64, .int .i64, .sl [.int .i64], .int .i64]), (true, [.int .i64, .int .i64])] rows) : PureC Try.prog 9 [(false, [.bool])] (argL [(true, [.str, .int .i64, .int .i64, .int .i64, .int .i64, .int .i64, .sl [.int .i64], .int .i64]), (true, [.str, .int .i64, .int .i64, .int .i64, .int .i64, .int .i64, .sl [.int .i64], .int .i64]), (true, [.int .i64, .int .i64])] rows) fun _ => .bool true := by
  match rows, h with
  | [r1, r2, r3], h =>
    obtain ⟨h1, h2, h3, _⟩ := h
    obtain ⟨n, b, bt, m, mt, c, r, p, rfl, a1, a2, a3, a4⟩ := fitG h1
    obtain ⟨n', b', bt', m', mt', c', r', p', rfl, b1, b2, b3, b4⟩ := fitG h2
    obtain ⟨x, y, rfl, c1, c2⟩ := fit2 h3
    exact V.p9 _ _ _ _ _ _ _ _ _ _ _ _ _ _ _ _ _ _ a1 a2 a3 a4 b1 b2 b3 b4 c1 c2
theorem f_lifted (os : Os) (started : os.Started) (H : Type) (enc : TypeId × Value → H) :
    ReturnsInHanded {} Try.checked os 9 .any (Rows.gradeSharesSpec.pre6 enc Try.prog Try.f9 Rows.gradeSharesRow.domain false) (Rows.gradeSharesSpec.post enc Try.prog Try.f9 false true false false) := by
  refine returnsInHanded_of_change (C := Try.checked) Try.own started (by kernel_rfl) Try.func9
    (ChangeSpec.witness6 (enc := enc) (C := Try.checked) false ⟨#[], #[.agg #[.string ⟨#[]⟩, .int .i64 0, .int .i64 0, .int .i64 0, .int .i64 0, .int .i64 0, .slice none 0 0, .int .i64 0], .agg #[.string ⟨#[]⟩, .int .i64 0, .int .i64 0, .int .i64 0, .int .i64 0, .int .i64 0, .slice none 0 0, .int .i64 0], .agg #[.int .i64 0, .int .i64 0]], []⟩ 8 (by kernel_rfl) (by kernel_rfl) (by kernel_rfl) (by kernel_rfl)) ?_
  intro W base args ds gs before hval hW _ _
  refine law_contract (P := Try.prog) (lays := [(true, [.str, .int .i64, .int .i64, .int .i64, .int .i64, .int .i64, .sl [.int .i64], .int .i64]), (true, [.str, .int .i64, .int .i64, .int .i64, .int .i64, .int .i64, .sl [.int .i64], .int .i64]), (true, [.int .i64, .int .i64])]) Try.laidOut (by kernel_rfl) rfl (by kernel_rfl) (t := 4) (by kernel_rfl) (of_decide_eq_true (by kernel_rfl)) ?_ law_pure hval hW
  intro ds hl
  have hs : Try.f9.params.size = 3 := by kernel_rfl
  rw [hs] at hl
  match ds, hl with
  | [_, _, _], _ => rfl
theorem shares_holds : Rows.GradeSharesSaid :=
  OpenClaim.holds_of_wide 9 Try.f9 rfl rfl rfl rfl rfl rfl rfl ⟨rfl, rfl, rfl, rfl, rfl⟩ rfl rfl rfl rfl rfl (by kernel_rfl) Try.func9 (by kernel_rfl)
    (of_decide_eq_true (by kernel_rfl)) (by unfold Func.isWrapper; rw [if_neg (by decide +kernel)]; exact ⟨rfl, rfl⟩)
    (fun os started H enc _ => f_lifted os started H enc)
end Go.Proofs.Ytljnpioekbdcaaa
