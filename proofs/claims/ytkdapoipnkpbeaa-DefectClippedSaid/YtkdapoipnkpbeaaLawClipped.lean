/- DefectClipped returns true at every input: what a clipped list is, without the reference. No conditions. -/
import Derived.Test.YtkdapoipnkpbeaaRows
import Derived.Test.YtkdapoipnkpbeaaDClipped
set_option linter.unusedVariables false
set_option linter.unusedSimpArgs false
namespace Go.Proofs.Ytkdapoipnkpbeaa
open Go Go.Eng Go.RowKit Go.ChangeShapes
set_option maxRecDepth 100000
theorem Try.own : ownKnob Try.prog.godebug = none := by kernel_rfl
theorem Try.laidOut : laidOutB Try.prog = true := by kernel_rfl
theorem fit4 {row : List C} (h : FitR [.int .i64, .int .i64, .int .i64, .int .i64] row) : ∃ l r a b, row = [.int .i64 l, .int .i64 r, .int .i64 a, .int .i64 b] := by
  match row, h with
  | [.int k1 l, .int k2 r, .int k3 a, .int k4 b], h =>
    simp only [FitR, FitC] at h
    obtain ⟨⟨rfl, _⟩, ⟨rfl, _⟩, ⟨rfl, _⟩, ⟨rfl, _⟩, _⟩ := h
    exact ⟨l, r, a, b, rfl⟩
theorem fitL {lay : List LK} {row : List C} (h : FitR [.sl lay] row) : ∃ xs, row = [.sl lay xs] ∧ xs.length ≤ 9223372036854775807 ∧ ∀ r ∈ xs, FitR lay r := by
  match row, h with
  | [.sl l xs], h =>
    simp only [FitR, FitC] at h
    obtain ⟨⟨rfl, h1, h2⟩, _⟩ := h
    exact ⟨xs, rfl, Nat.le_trans h1 (by decide), h2⟩

theorem law_pure (rows : List (List C)) (h : FitA [(false, [.sl [.int .i64, .int .i64, .int .i64, .int .i64, .int .i64, .int .i64]]), (true, [.int .i64, .int .i64, .int .i64, .int .i64])] rows) : PureC Try.prog 9 [(false, [.bool])] (argL [(false, [.sl [.int .i64, .int .i64, .int .i64, .int .i64, .int .i64, .int .i64]]), (true, [.int .i64, .int .i64, .int .i64, .int .i64])] rows) fun _ => .bool true := by
  match rows, h with
  | [r1, r2], h =>
    obtain ⟨h1, h2, _⟩ := h
    obtain ⟨xs, rfl, _, hx⟩ := fitL h1
    obtain ⟨rs, rfl⟩ := rows_6 hx
    obtain ⟨l, r, a, b, rfl⟩ := fit4 h2
    exact V.p9
theorem f_lifted (os : Os) (started : os.Started) (H : Type) (enc : TypeId × Value → H) :
    ReturnsInHanded {} Try.checked os 9 .any (Rows.defectClippedSpec.pre6 enc Try.prog Try.f9 Rows.defectClippedRow.domain false) (Rows.defectClippedSpec.post enc Try.prog Try.f9 false true false false) := by
  refine returnsInHanded_of_change (C := Try.checked) Try.own started (by kernel_rfl) Try.func9
    (ChangeSpec.witness6 (enc := enc) (C := Try.checked) false ⟨#[], #[.slice none 0 0, .agg #[.int .i64 0, .int .i64 0, .int .i64 0, .int .i64 0]], []⟩ 8 (by kernel_rfl) (by kernel_rfl) (by kernel_rfl) (by kernel_rfl)) ?_
  intro W base args ds gs before hval hW _ _
  refine law_contract (P := Try.prog) (lays := [(false, [.sl [.int .i64, .int .i64, .int .i64, .int .i64, .int .i64, .int .i64]]), (true, [.int .i64, .int .i64, .int .i64, .int .i64])]) Try.laidOut (by kernel_rfl) rfl (by kernel_rfl) (t := 4) (by kernel_rfl) (of_decide_eq_true (by kernel_rfl)) ?_ law_pure hval hW
  intro ds hl
  have hs : Try.f9.params.size = 2 := by kernel_rfl
  rw [hs] at hl
  match ds, hl with
  | [_, _], _ => rfl
theorem clipped_holds : Rows.DefectClippedSaid :=
  OpenClaim.holds_of_wide 9 Try.f9 rfl rfl rfl rfl rfl rfl rfl ⟨rfl, rfl, rfl, rfl, rfl⟩ rfl rfl rfl rfl rfl (by kernel_rfl) Try.func9 (by kernel_rfl)
    (of_decide_eq_true (by kernel_rfl)) (by unfold Func.isWrapper; rw [if_neg (by decide +kernel)]; exact ⟨rfl, rfl⟩)
    (fun os started H enc _ => f_lifted os started H enc)
end Go.Proofs.Ytkdapoipnkpbeaa
