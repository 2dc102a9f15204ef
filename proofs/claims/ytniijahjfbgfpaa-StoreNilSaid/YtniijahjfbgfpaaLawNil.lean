/- StoreNil returns true at every input: a nil warehouse returns ErrNil and zero values. No conditions. -/
import Derived.Test.YtniijahjfbgfpaaRows
import Derived.Test.YtniijahjfbgfpaaCallsLaw
set_option linter.unusedVariables false
set_option linter.unusedSimpArgs false
namespace Go.Proofs.Ytniijahjfbgfpaa
open Go Go.Eng Go.RowKit Go.ChangeShapes
set_option maxRecDepth 100000
theorem Try.own : ownKnob Try.prog.godebug = none := by kernel_rfl
theorem Try.laidOut : laidOutB Try.prog = true := by kernel_rfl
theorem fit5 {row : List C} (h : FitR [.int .i64, .int .i64, .int .i64, .int .i64, .int .i64] row) : ∃ a b c d e, row = [.int .i64 a, .int .i64 b, .int .i64 c, .int .i64 d, .int .i64 e] := by
  obtain ⟨r, rfl⟩ := fit_5 h
  exact ⟨r.1, r.2.1, r.2.2.1, r.2.2.2.1, r.2.2.2.2, rfl⟩

theorem law_pure (rows : List (List C)) (h : FitA [(true, [.int .i64, .int .i64, .int .i64, .int .i64, .int .i64])] rows) : PureC Try.prog 9 [(false, [.bool])] (argL [(true, [.int .i64, .int .i64, .int .i64, .int .i64, .int .i64])] rows) fun _ => .bool true := by
  match rows, h with
  | [r1], h =>
    obtain ⟨h1, _⟩ := h
    obtain ⟨a, b, c, d, e, rfl⟩ := fit5 h1
    exact V.p9 a b c d e
theorem f_lifted (os : Os) (started : os.Started) (H : Type) (enc : TypeId × Value → H) :
    ReturnsInHanded {} Try.checked os 9 .any (Rows.storeNilSpec.pre6 enc Try.prog Try.f9 Rows.storeNilRow.domain false) (Rows.storeNilSpec.post enc Try.prog Try.f9 false true false false) := by
  refine returnsInHanded_of_change (C := Try.checked) Try.own started (by kernel_rfl) Try.func9
    (ChangeSpec.witness6 (enc := enc) (C := Try.checked) false ⟨#[], #[.agg #[.int .i64 0, .int .i64 0, .int .i64 0, .int .i64 0, .int .i64 0]], []⟩ 8 (by kernel_rfl) (by kernel_rfl) (by kernel_rfl) (by kernel_rfl)) ?_
  intro W base args ds gs before hval hW _ _
  refine law_contract (P := Try.prog) (lays := [(true, [.int .i64, .int .i64, .int .i64, .int .i64, .int .i64])]) Try.laidOut (by kernel_rfl) rfl (by kernel_rfl) (t := 4) (by kernel_rfl) (of_decide_eq_true (by kernel_rfl)) ?_ law_pure hval hW
  intro ds hl
  have hs : Try.f9.params.size = 1 := by kernel_rfl
  rw [hs] at hl
  match ds, hl with
  | [_], _ => rfl
theorem nil_holds : Rows.StoreNilSaid :=
  OpenClaim.holds_of_wide 9 Try.f9 rfl rfl rfl rfl rfl rfl rfl ⟨rfl, rfl, rfl, rfl, rfl⟩ rfl rfl rfl rfl rfl (by kernel_rfl) Try.func9 (by kernel_rfl)
    (of_decide_eq_true (by kernel_rfl)) (by unfold Func.isWrapper; rw [if_neg (by decide +kernel)]; exact ⟨rfl, rfl⟩)
    (fun os started H enc _ => f_lifted os started H enc)
end Go.Proofs.Ytniijahjfbgfpaa
