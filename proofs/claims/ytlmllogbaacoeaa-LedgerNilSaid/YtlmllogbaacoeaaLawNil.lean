/- LedgerNil returns true at every input: a nil ledger returns ErrNil and zero values. No conditions. -/
import Derived.Test.YtlmllogbaacoeaaRows
import Derived.Test.YtlmllogbaacoeaaNilLaw
set_option linter.unusedVariables false
set_option linter.unusedSimpArgs false
namespace Go.Proofs.Ytlmllogbaacoeaa
open Go Go.Eng Go.RowKit Go.ChangeShapes
set_option maxRecDepth 100000
theorem Try.own : ownKnob Try.prog.godebug = none := by kernel_rfl
theorem Try.laidOut : laidOutB Try.prog = true := by kernel_rfl
theorem fit2 {row : List C} (h : FitR [.int .i64, .int .i64] row) : ∃ a b, row = [.int .i64 a, .int .i64 b] := by
  match row, h with
  | [.int k1 a, .int k2 b], h =>
    simp only [FitR, FitC] at h
    obtain ⟨⟨rfl, h1⟩, ⟨rfl, h2⟩, _⟩ := h
    exact ⟨a, b, rfl⟩
theorem fitP {row : List C} (h : FitR [.int .i64, .int .i64, .sl [.int .i64, .int .i64]] row) : ∃ p : V.PT, row = V.rowP p ∧ p.2.2.length ≤ 9223372036854775807 := by
  match row, h with
  | [.int k1 a, .int k2 b, .sl l c], h =>
    simp only [FitR, FitC] at h
    obtain ⟨⟨rfl, _⟩, ⟨rfl, _⟩, ⟨rfl, hl, hc⟩, _⟩ := h
    obtain ⟨its, rfl⟩ := rows_2 hc
    exact ⟨(a, b, its), rfl, by rw [row2_len] at hl; exact Nat.le_trans hl (by decide)⟩
theorem fit1 {row : List C} (h : FitR [.int .i64] row) : ∃ n, row = [.int .i64 n] := by
  match row, h with
  | [.int k1 n], h =>
    simp only [FitR, FitC] at h
    obtain ⟨⟨rfl, _⟩, _⟩ := h
    exact ⟨n, rfl⟩

theorem law_pure (rows : List (List C)) (h : FitA [(true, [.int .i64, .int .i64, .sl [.int .i64, .int .i64]]), (false, [.int .i64]), (false, [.int .i64])] rows) : PureC Try.prog 11 [(false, [.bool])] (argL [(true, [.int .i64, .int .i64, .sl [.int .i64, .int .i64]]), (false, [.int .i64]), (false, [.int .i64])] rows) fun _ => .bool true := by
  match rows, h with
  | [r1, r2, r3], h =>
    obtain ⟨h1, h2, h3, _⟩ := h
    obtain ⟨p, rfl, hl⟩ := fitP h1
    obtain ⟨k, rfl⟩ := fit1 h2
    obtain ⟨t, rfl⟩ := fit1 h3
    exact V.p11 p.1 p.2.1 p.2.2 k t
theorem f_lifted (os : Os) (started : os.Started) (H : Type) (enc : TypeId × Value → H) :
    ReturnsInHanded {} Try.checked os 11 .any (Rows.ledgerNilSpec.pre6 enc Try.prog Try.f11 Rows.ledgerNilRow.domain false) (Rows.ledgerNilSpec.post enc Try.prog Try.f11 false true false false) := by
  refine returnsInHanded_of_change (C := Try.checked) Try.own started (by kernel_rfl) Try.func11
    (ChangeSpec.witness6 (enc := enc) (C := Try.checked) false ⟨#[], #[.agg #[.int .i64 0, .int .i64 0, .slice none 0 0], .int .i64 0, .int .i64 0], []⟩ 8 (by kernel_rfl) (by kernel_rfl) (by kernel_rfl) (by kernel_rfl)) ?_
  intro W base args ds gs before hval hW _ _
  refine law_contract (P := Try.prog) (lays := [(true, [.int .i64, .int .i64, .sl [.int .i64, .int .i64]]), (false, [.int .i64]), (false, [.int .i64])]) Try.laidOut (by kernel_rfl) rfl (by kernel_rfl) (t := 4) (by kernel_rfl) (of_decide_eq_true (by kernel_rfl)) ?_ law_pure hval hW
  intro ds hl
  have hs : Try.f11.params.size = 3 := by kernel_rfl
  rw [hs] at hl
  match ds, hl with
  | [_, _, _], _ => rfl
theorem nil_holds : Rows.LedgerNilSaid :=
  OpenClaim.holds_of_wide 11 Try.f11 rfl rfl rfl rfl rfl rfl rfl ⟨rfl, rfl, rfl, rfl, rfl⟩ rfl rfl rfl rfl rfl (by kernel_rfl) Try.func11 (by kernel_rfl)
    (of_decide_eq_true (by kernel_rfl)) (by unfold Func.isWrapper; rw [if_neg (by decide +kernel)]; exact ⟨rfl, rfl⟩)
    (fun os started H enc _ => f_lifted os started H enc)
end Go.Proofs.Ytlmllogbaacoeaa
