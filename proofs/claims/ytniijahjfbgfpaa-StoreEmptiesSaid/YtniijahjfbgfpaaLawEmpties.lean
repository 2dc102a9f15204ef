/- StoreEmpties returns true at every input: rolls leave a bay in the order in which they came. No conditions. -/
import Derived.Test.YtniijahjfbgfpaaRows
import Derived.Test.YtniijahjfbgfpaaEmpLaw
set_option linter.unusedVariables false
set_option linter.unusedSimpArgs false
namespace Go.Proofs.Ytniijahjfbgfpaa
open Go Go.Eng Go.RowKit Go.ChangeShapes
set_option maxRecDepth 100000
theorem Try.own : ownKnob Try.prog.godebug = none := by kernel_rfl
theorem Try.laidOut : laidOutB Try.prog = true := by kernel_rfl
theorem fitS2 {row : List C} (h : FitR [.sl l2] row) : ∃ ps : List I2, row = [.sl l2 (row2 ps)] := by
  match row, h with
  | [.sl l xs], h =>
    simp only [FitR, FitC] at h
    obtain ⟨⟨rfl, _, h2⟩, _⟩ := h
    obtain ⟨ps, rfl⟩ := rows_2 h2
    exact ⟨ps, rfl⟩
theorem fitS5 {row : List C} (h : FitR [.sl l5] row) : ∃ ps : List I5, row = [.sl l5 (row5 ps)] := by
  match row, h with
  | [.sl l xs], h =>
    simp only [FitR, FitC] at h
    obtain ⟨⟨rfl, _, h2⟩, _⟩ := h
    obtain ⟨ps, rfl⟩ := rows_5 h2
    exact ⟨ps, rfl⟩
theorem fitU8 {row : List C} (h : FitR [.int .u8] row) : ∃ n, row = [.int .u8 n] ∧ 0 ≤ n ∧ n ≤ 255 := by
  match row, h with
  | [.int k1 n], h =>
    simp only [FitR, FitC] at h
    obtain ⟨⟨rfl, h1, h2⟩, _⟩ := h
    exact ⟨n, rfl, h1, h2⟩

theorem law_pure (rows : List (List C)) (h : FitA [(false, [.sl [.int .i64, .int .i64]]), (false, [.sl [.int .i64, .int .i64, .int .i64, .int .i64, .int .i64]]), (false, [.int .u8])] rows) : PureC Try.prog 6 [(false, [.bool])] (argL [(false, [.sl [.int .i64, .int .i64]]), (false, [.sl [.int .i64, .int .i64, .int .i64, .int .i64, .int .i64]]), (false, [.int .u8])] rows) fun _ => .bool true := by
  match rows, h with
  | [r1, r2, r3], h =>
    obtain ⟨h1, h2, h3, _⟩ := h
    obtain ⟨bs, rfl⟩ := fitS2 h1
    obtain ⟨l, rfl⟩ := fitS5 h2
    obtain ⟨x, rfl, a1, a2⟩ := fitU8 h3
    exact V.p6 bs l a1 a2
theorem f_lifted (os : Os) (started : os.Started) (H : Type) (enc : TypeId × Value → H) :
    ReturnsInHanded {} Try.checked os 6 .any (Rows.storeEmptiesSpec.pre6 enc Try.prog Try.f6 Rows.storeEmptiesRow.domain false) (Rows.storeEmptiesSpec.post enc Try.prog Try.f6 false true false false) := by
  refine returnsInHanded_of_change (C := Try.checked) Try.own started (by kernel_rfl) Try.func6
    (ChangeSpec.witness6 (enc := enc) (C := Try.checked) false ⟨#[], #[.slice none 0 0, .slice none 0 0, .int .u8 0], []⟩ 8 (by kernel_rfl) (by kernel_rfl) (by kernel_rfl) (by kernel_rfl)) ?_
  intro W base args ds gs before hval hW _ _
  refine law_contract (P := Try.prog) (lays := [(false, [.sl [.int .i64, .int .i64]]), (false, [.sl [.int .i64, .int .i64, .int .i64, .int .i64, .int .i64]]), (false, [.int .u8])]) Try.laidOut (by kernel_rfl) rfl (by kernel_rfl) (t := 4) (by kernel_rfl) (of_decide_eq_true (by kernel_rfl)) ?_ law_pure hval hW
  intro ds hl
  have hs : Try.f6.params.size = 3 := by kernel_rfl
  rw [hs] at hl
  match ds, hl with
  | [_, _, _], _ => rfl
theorem empties_holds : Rows.StoreEmptiesSaid :=
  OpenClaim.holds_of_wide 6 Try.f6 rfl rfl rfl rfl rfl rfl rfl ⟨rfl, rfl, rfl, rfl, rfl⟩ rfl rfl rfl rfl rfl (by kernel_rfl) Try.func6 (by kernel_rfl)
    (of_decide_eq_true (by kernel_rfl)) (by unfold Func.isWrapper; rw [if_neg (by decide +kernel)]; exact ⟨rfl, rfl⟩)
    (fun os started H enc _ => f_lifted os started H enc)
end Go.Proofs.Ytniijahjfbgfpaa
