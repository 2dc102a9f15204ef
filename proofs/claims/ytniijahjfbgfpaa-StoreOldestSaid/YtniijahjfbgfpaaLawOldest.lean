/- StoreOldest returns true at every input: first in, first out. No conditions. -/
import Derived.Test.YtniijahjfbgfpaaRows
import Derived.Test.YtniijahjfbgfpaaOldLaw
set_option linter.unusedVariables false
set_option linter.unusedSimpArgs false
namespace Go.Proofs.Ytniijahjfbgfpaa
open Go Go.Eng Go.RowKit Go.ChangeShapes
set_option maxRecDepth 100000
theorem Try.own : ownKnob Try.prog.godebug = none := by kernel_rfl
theorem Try.laidOut : laidOutB Try.prog = true := by kernel_rfl
theorem fitS2 {row : List C} (h : FitR [.sl l2] row) : ∃ ps : List I2, row = [.sl l2 (row2 ps)] := by
  match row, h with
  | [.sl l xs], h =>
    simp only [FitR, FitC] at h
    obtain ⟨⟨rfl, _, h2⟩, _⟩ := h
    obtain ⟨ps, rfl⟩ := rows_2 h2
    exact ⟨ps, rfl⟩
theorem fitS5 {row : List C} (h : FitR [.sl l5] row) : ∃ ps : List I5, row = [.sl l5 (row5 ps)] := by
  match row, h with
  | [.sl l xs], h =>
    simp only [FitR, FitC] at h
    obtain ⟨⟨rfl, _, h2⟩, _⟩ := h
    obtain ⟨ps, rfl⟩ := rows_5 h2
    exact ⟨ps, rfl⟩

theorem law_pure (rows : List (List C)) (h : FitA [(false, [.sl [.int .i64, .int .i64]]), (false, [.sl [.int .i64, .int .i64, .int .i64, .int .i64, .int .i64]])] rows) : PureC Try.prog 5 [(false, [.bool])] (argL [(false, [.sl [.int .i64, .int .i64]]), (false, [.sl [.int .i64, .int .i64, .int .i64, .int .i64, .int .i64]])] rows) fun _ => .bool true := by
  match rows, h with
  | [r1, r2], h =>
    obtain ⟨h1, h2, _⟩ := h
    obtain ⟨bs, rfl⟩ := fitS2 h1
    obtain ⟨l, rfl⟩ := fitS5 h2
    exact V.p5 bs l
theorem f_lifted (os : Os) (started : os.Started) (H : Type) (enc : TypeId × Value → H) :
    ReturnsInHanded {} Try.checked os 5 .any (Rows.storeOldestSpec.pre6 enc Try.prog Try.f5 Rows.storeOldestRow.domain false) (Rows.storeOldestSpec.post enc Try.prog Try.f5 false true false false) := by
  refine returnsInHanded_of_change (C := Try.checked) Try.own started (by kernel_rfl) Try.func5
    (ChangeSpec.witness6 (enc := enc) (C := Try.checked) false ⟨#[], #[.slice none 0 0, .slice none 0 0], []⟩ 8 (by kernel_rfl) (by kernel_rfl) (by kernel_rfl) (by kernel_rfl)) ?_
  intro W base args ds gs before hval hW _ _
  refine law_contract (P := Try.prog) (lays := [(false, [.sl [.int .i64, .int .i64]]), (false, [.sl [.int .i64, .int .i64, .int .i64, .int .i64, .int .i64]])]) Try.laidOut (by kernel_rfl) rfl (by kernel_rfl) (t := 4) (by kernel_rfl) (of_decide_eq_true (by kernel_rfl)) ?_ law_pure hval hW
  intro ds hl
  have hs : Try.f5.params.size = 2 := by kernel_rfl
  rw [hs] at hl
  match ds, hl with
  | [_, _], _ => rfl
theorem oldest_holds : Rows.StoreOldestSaid :=
  OpenClaim.holds_of_wide 5 Try.f5 rfl rfl rfl rfl rfl rfl rfl ⟨rfl, rfl, rfl, rfl, rfl⟩ rfl rfl rfl rfl rfl (by kernel_rfl) Try.func5 (by kernel_rfl)
    (of_decide_eq_true (by kernel_rfl)) (by unfold Func.isWrapper; rw [if_neg (by decide +kernel)]; exact ⟨rfl, rfl⟩)
    (fun os started H enc _ => f_lifted os started H enc)
end Go.Proofs.Ytniijahjfbgfpaa
