/- GradeRoute returns true at every input: the route has the same grades, begins with the first one, and no given other order is shorter. No conditions. -/
import Derived.Test.YtljnpioekbdcaaaRows
import Derived.Test.YtljnpioekbdcaaaRouteLaw2
set_option linter.unusedVariables false
set_option linter.unusedSimpArgs false
namespace Go.Proofs.Ytljnpioekbdcaaa
open Go Go.Eng Go.RowKit Go.ChangeShapes
set_option maxRecDepth 100000
theorem Try.own : ownKnob Try.prog.godebug = none := by kernel_rfl
theorem Try.laidOut : laidOutB Try.prog = true := by kernel_rfl
theorem fit1 {row : List C} (h : FitR [.int .i64] row) : ∃ n, row = [.int .i64 n] := by
  match row, h with
  | [.int k1 n], h =>
    simp only [FitR, FitC] at h
    obtain ⟨⟨rfl, _⟩, _⟩ := h
    exact ⟨n, rfl⟩
theorem fitL {lay : List LK} {row : List C} (h : FitR [.sl lay] row) : ∃ xs, row = [.sl lay xs] ∧ xs.length ≤ 9223372036854775807 ∧ ∀ r ∈ xs, FitR lay r := by
  match row, h with
  | [.sl l xs], h =>
    simp only [FitR, FitC] at h
    obtain ⟨⟨rfl, h1, h2⟩, _⟩ := h
    exact ⟨xs, rfl, Nat.le_trans h1 (by decide), h2⟩

theorem law_pure (rows : List (List C)) (h : FitA [(false, [.sl [.str, .int .i64, .int .i64, .int .i64, .int .i64, .int .i64, .sl [.int .i64], .int .i64]]), (false, [.int .i64]), (false, [.sl [.int .i64]]), (false, [.sl [.int .i64]])] rows) : PureC Try.prog 8 [(false, [.bool])] (argL [(false, [.sl [.str, .int .i64, .int .i64, .int .i64, .int .i64, .int .i64, .sl [.int .i64], .int .i64]]), (false, [.int .i64]), (false, [.sl [.int .i64]]), (false, [.sl [.int .i64]])] rows) fun _ => .bool true := by
  match rows, h with
  | [r1, r2, r3, r4], h =>
    obtain ⟨h1, h2, h3, h4, _⟩ := h
    obtain ⟨xs, rfl, hl, hx⟩ := fitL h1
    obtain ⟨k, rfl⟩ := fit1 h2
    obtain ⟨ws, rfl, hw, hy⟩ := fitL h3
    obtain ⟨zs, rfl⟩ := rows_I hy
    obtain ⟨vs, rfl, hv, hz⟩ := fitL h4
    obtain ⟨ts, rfl⟩ := rows_I hz
    exact V.p8 xs k zs ts
theorem f_lifted (os : Os) (started : os.Started) (H : Type) (enc : TypeId × Value → H) :
    ReturnsInHanded {} Try.checked os 8 .any (Rows.gradeRouteSpec.pre6 enc Try.prog Try.f8 Rows.gradeRouteRow.domain false) (Rows.gradeRouteSpec.post enc Try.prog Try.f8 false true false false) := by
  refine returnsInHanded_of_change (C := Try.checked) Try.own started (by kernel_rfl) Try.func8
    (ChangeSpec.witness6 (enc := enc) (C := Try.checked) false ⟨#[], #[.slice none 0 0, .int .i64 0, .slice none 0 0, .slice none 0 0], []⟩ 8 (by kernel_rfl) (by kernel_rfl) (by kernel_rfl) (by kernel_rfl)) ?_
  intro W base args ds gs before hval hW _ _
  refine law_contract (P := Try.prog) (lays := [(false, [.sl [.str, .int .i64, .int .i64, .int .i64, .int .i64, .int .i64, .sl [.int .i64], .int .i64]]), (false, [.int .i64]), (false, [.sl [.int .i64]]), (false, [.sl [.int .i64]])]) Try.laidOut (by kernel_rfl) rfl (by kernel_rfl) (t := 4) (by kernel_rfl) (of_decide_eq_true (by kernel_rfl)) ?_ law_pure hval hW
  intro ds hl
  have hs : Try.f8.params.size = 4 := by kernel_rfl
  rw [hs] at hl
  match ds, hl with
  | [_, _, _, _], _ => rfl
theorem route_holds : Rows.GradeRouteSaid :=
  OpenClaim.holds_of_wide 8 Try.f8 rfl rfl rfl rfl rfl rfl rfl ⟨rfl, rfl, rfl, rfl, rfl⟩ rfl rfl rfl rfl rfl (by kernel_rfl) Try.func8 (by kernel_rfl)
    (of_decide_eq_true (by kernel_rfl)) (by unfold Func.isWrapper; rw [if_neg (by decide +kernel)]; exact ⟨rfl, rfl⟩)
    (fun os started H enc _ => f_lifted os started H enc)
end Go.Proofs.Ytljnpioekbdcaaa
