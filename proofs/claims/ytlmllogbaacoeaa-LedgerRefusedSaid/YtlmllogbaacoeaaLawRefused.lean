/- LedgerRefused returns true at every input: a posting that returns an error changes nothing. No conditions. -/
import Derived.Test.YtlmllogbaacoeaaRows
import Derived.Test.YtlmllogbaacoeaaRefLaw
set_option linter.unusedVariables false
set_option linter.unusedSimpArgs false
namespace Go.Proofs.Ytlmllogbaacoeaa
open Go Go.Eng Go.RowKit Go.ChangeShapes
set_option maxRecDepth 100000
theorem Try.own : ownKnob Try.prog.godebug = none := by kernel_rfl
theorem Try.laidOut : laidOutB Try.prog = true := by kernel_rfl
theorem fit2 {row : List C} (h : FitR [.int .i64, .int .i64] row) : ∃ a b, row = [.int .i64 a, .int .i64 b] := by
  match row, h with
  | [.int k1 a, .int k2 b], h =>
    simp only [FitR, FitC] at h
    obtain ⟨⟨rfl, h1⟩, ⟨rfl, h2⟩, _⟩ := h
    exact ⟨a, b, rfl⟩
theorem fitP {row : List C} (h : FitR [.int .i64, .int .i64, .sl [.int .i64, .int .i64]] row) : ∃ p : V.PT, row = V.rowP p ∧ p.2.2.length ≤ 9223372036854775807 := by
  match row, h with
  | [.int k1 a, .int k2 b, .sl l c], h =>
    simp only [FitR, FitC] at h
    obtain ⟨⟨rfl, _⟩, ⟨rfl, _⟩, ⟨rfl, hl, hc⟩, _⟩ := h
    obtain ⟨its, rfl⟩ := rows_2 hc
    exact ⟨(a, b, its), rfl, by rw [row2_len] at hl; exact Nat.le_trans hl (by decide)⟩
theorem fitL {row : List C} (h : FitR [.sl [.int .i64, .int .i64, .sl [.int .i64, .int .i64]]] row) : ∃ ps : List V.PT, row = [.sl V.PL (V.rowsP ps)] ∧ ps.length ≤ 9223372036854775807 := by
  match row, h with
  | [.sl l xs], h =>
    simp only [FitR, FitC] at h
    obtain ⟨⟨rfl, h1, h2⟩, _⟩ := h
    have key : ∀ xs : List (List C), (∀ r ∈ xs, FitR V.PL r) → ∃ ps : List V.PT, xs = V.rowsP ps := by
      intro xs
      induction xs with
      | nil => exact fun _ => ⟨[], rfl⟩
      | cons x xs ih =>
        intro h
        obtain ⟨p, rfl, _⟩ := fitP (h x (by simp))
        obtain ⟨ps, rfl⟩ := ih fun r hr => h r (by simp [hr])
        exact ⟨p :: ps, rfl⟩
    obtain ⟨ps, rfl⟩ := key xs h2
    exact ⟨ps, rfl, by rw [V.rowsP_len] at h1; exact Nat.le_trans h1 (by decide)⟩

theorem law_pure (rows : List (List C)) (h : FitA [(false, [.sl [.int .i64, .int .i64, .sl [.int .i64, .int .i64]]]), (true, [.int .i64, .int .i64, .sl [.int .i64, .int .i64]])] rows) : PureC Try.prog 8 [(false, [.bool])] (argL [(false, [.sl [.int .i64, .int .i64, .sl [.int .i64, .int .i64]]]), (true, [.int .i64, .int .i64, .sl [.int .i64, .int .i64]])] rows) fun _ => .bool true := by
  match rows, h with
  | [r1, r2], h =>
    obtain ⟨h1, h2, _⟩ := h
    obtain ⟨ps, rfl, hl⟩ := fitL h1
    obtain ⟨p, rfl, hp⟩ := fitP h2
    exact V.p8 ps p
theorem f_lifted (os : Os) (started : os.Started) (H : Type) (enc : TypeId × Value → H) :
    ReturnsInHanded {} Try.checked os 8 .any (Rows.ledgerRefusedSpec.pre6 enc Try.prog Try.f8 Rows.ledgerRefusedRow.domain false) (Rows.ledgerRefusedSpec.post enc Try.prog Try.f8 false true false false) := by
  refine returnsInHanded_of_change (C := Try.checked) Try.own started (by kernel_rfl) Try.func8
    (ChangeSpec.witness6 (enc := enc) (C := Try.checked) false ⟨#[], #[.slice none 0 0, .agg #[.int .i64 0, .int .i64 0, .slice none 0 0]], []⟩ 8 (by kernel_rfl) (by kernel_rfl) (by kernel_rfl) (by kernel_rfl)) ?_
  intro W base args ds gs before hval hW _ _
  refine law_contract (P := Try.prog) (lays := [(false, [.sl [.int .i64, .int .i64, .sl [.int .i64, .int .i64]]]), (true, [.int .i64, .int .i64, .sl [.int .i64, .int .i64]])]) Try.laidOut (by kernel_rfl) rfl (by kernel_rfl) (t := 4) (by kernel_rfl) (of_decide_eq_true (by kernel_rfl)) ?_ law_pure hval hW
  intro ds hl
  have hs : Try.f8.params.size = 2 := by kernel_rfl
  rw [hs] at hl
  match ds, hl with
  | [_, _], _ => rfl
theorem refused_holds : Rows.LedgerRefusedSaid :=
  OpenClaim.holds_of_wide 8 Try.f8 rfl rfl rfl rfl rfl rfl rfl ⟨rfl, rfl, rfl, rfl, rfl⟩ rfl rfl rfl rfl rfl (by kernel_rfl) Try.func8 (by kernel_rfl)
    (of_decide_eq_true (by kernel_rfl)) (by unfold Func.isWrapper; rw [if_neg (by decide +kernel)]; exact ⟨rfl, rfl⟩)
    (fun os started H enc _ => f_lifted os started H enc)
end Go.Proofs.Ytlmllogbaacoeaa
