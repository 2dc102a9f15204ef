/- KnifeTurns returns true at every input: the cost of two patterns is that of the first one and the moves to the second one. No conditions. -/
import Derived.Test.YtjmgphobpgajbaaRows
import Derived.Test.YtjmgphobpgajbaaLTrn
set_option linter.unusedVariables false
set_option linter.unusedSimpArgs false
namespace Go.Proofs.Ytjmgphobpgajbaa
open Go Go.Eng Go.RowKit Go.ChangeShapes
set_option maxRecDepth 100000
theorem Try.own : ownKnob Try.prog.godebug = none := by kernel_rfl
theorem Try.laidOut : laidOutB Try.prog = true := by kernel_rfl
theorem fitD {row : List C} (h : FitR [.int .i64, .int .i64, .int .i64, .int .i64, .sl [.int .i64]] row) : ∃ (w e t k : Int) (ss : List Int), row = [.int .i64 w, .int .i64 e, .int .i64 t, .int .i64 k, .sl [.int .i64] (rowsI ss)] := by
  match row, h with
  | [.int k1 a, .int k2 b, .int k3 c, .int k4 d, .sl l xs], h =>
    simp only [FitR, FitC] at h
    obtain ⟨⟨rfl, _⟩, ⟨rfl, _⟩, ⟨rfl, _⟩, ⟨rfl, _⟩, ⟨rfl, _, h2⟩, _⟩ := h
    obtain ⟨ss, rfl⟩ := rows_I h2
    exact ⟨a, b, c, d, ss, rfl⟩
theorem fitI {row : List C} (h : FitR [.sl [.int .i64]] row) : ∃ ps : List Int, row = [.sl [.int .i64] (rowsI ps)] := by
  obtain ⟨xs, rfl, _, h2⟩ := fit_sl h
  obtain ⟨ps, rfl⟩ := rows_I h2
  exact ⟨ps, rfl⟩

theorem law_pure (rows : List (List C)) (h : FitA [(true, [.int .i64, .int .i64, .int .i64, .int .i64, .sl [.int .i64]]), (false, [.sl [.int .i64]]), (false, [.sl [.int .i64]])] rows) : PureC Try.prog 9 [(false, [.bool])] (argL [(true, [.int .i64, .int .i64, .int .i64, .int .i64, .sl [.int .i64]]), (false, [.sl [.int .i64]]), (false, [.sl [.int .i64]])] rows) fun _ => .bool true := by
  match rows, h with
  | [r0, r1, r2], h =>
    obtain ⟨h0, h1, h2, _⟩ := h
    obtain ⟨w, e, t, k, ss, rfl⟩ := fitD h0
    obtain ⟨a1, rfl⟩ := fitI h1
    obtain ⟨a2, rfl⟩ := fitI h2
    exact V.p9 w e t k ss a1 a2
theorem f_lifted (os : Os) (started : os.Started) (H : Type) (enc : TypeId × Value → H) :
    ReturnsInHanded {} Try.checked os 9 .any (Rows.knifeTurnsSpec.pre6 enc Try.prog Try.f9 Rows.knifeTurnsRow.domain false) (Rows.knifeTurnsSpec.post enc Try.prog Try.f9 false true false false) := by
  refine returnsInHanded_of_change (C := Try.checked) Try.own started (by kernel_rfl) Try.func9
    (ChangeSpec.witness6 (enc := enc) (C := Try.checked) false ⟨#[], #[.agg #[.int .i64 0, .int .i64 0, .int .i64 0, .int .i64 0, .slice none 0 0], .slice none 0 0, .slice none 0 0], []⟩ 8 (by kernel_rfl) (by kernel_rfl) (by kernel_rfl) (by kernel_rfl)) ?_
  intro W base args ds gs before hval hW _ _
  refine law_contract (P := Try.prog) (lays := [(true, [.int .i64, .int .i64, .int .i64, .int .i64, .sl [.int .i64]]), (false, [.sl [.int .i64]]), (false, [.sl [.int .i64]])]) Try.laidOut (by kernel_rfl) rfl (by kernel_rfl) (t := 4) (by kernel_rfl) (of_decide_eq_true (by kernel_rfl)) ?_ law_pure hval hW
  intro ds hl
  have hs : Try.f9.params.size = 3 := by kernel_rfl
  rw [hs] at hl
  match ds, hl with
  | [_, _, _], _ => rfl
theorem turns_holds : Rows.KnifeTurnsSaid :=
  OpenClaim.holds_of_wide 9 Try.f9 rfl rfl rfl rfl rfl rfl rfl ⟨rfl, rfl, rfl, rfl, rfl⟩ rfl rfl rfl rfl rfl (by kernel_rfl) Try.func9 (by kernel_rfl)
    (of_decide_eq_true (by kernel_rfl)) (by unfold Func.isWrapper; rw [if_neg (by decide +kernel)]; exact ⟨rfl, rfl⟩)
    (fun os started H enc _ => f_lifted os started H enc)
end Go.Proofs.Ytjmgphobpgajbaa
