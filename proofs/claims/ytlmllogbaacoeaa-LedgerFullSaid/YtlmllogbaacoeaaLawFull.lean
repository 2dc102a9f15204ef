/- LedgerFull returns true at every input: a ledger takes 512 postings, and no more. No conditions. -/
import Derived.Test.YtlmllogbaacoeaaRows
import Derived.Test.YtlmllogbaacoeaaFullLaw
set_option linter.unusedVariables false
set_option linter.unusedSimpArgs false
namespace Go.Proofs.Ytlmllogbaacoeaa
open Go Go.Eng Go.RowKit Go.ChangeShapes
set_option maxRecDepth 100000
theorem Try.own : ownKnob Try.prog.godebug = none := by kernel_rfl
theorem Try.laidOut : laidOutB Try.prog = true := by kernel_rfl
theorem fitU16 {row : List C} (h : FitR [.int .u16] row) : ∃ n, row = [.int .u16 n] ∧ 0 ≤ n ∧ n ≤ 65535 := by
  match row, h with
  | [.int k1 n], h =>
    simp only [FitR, FitC] at h
    obtain ⟨⟨rfl, h1, h2⟩, _⟩ := h
    exact ⟨n, rfl, h1, h2⟩
theorem fitU8 {row : List C} (h : FitR [.int .u8] row) : ∃ n, row = [.int .u8 n] ∧ 0 ≤ n ∧ n ≤ 255 := by
  match row, h with
  | [.int k1 n], h =>
    simp only [FitR, FitC] at h
    obtain ⟨⟨rfl, h1, h2⟩, _⟩ := h
    exact ⟨n, rfl, h1, h2⟩

theorem law_pure (rows : List (List C)) (h : FitA [(false, [.int .u16]), (false, [.int .u8])] rows) : PureC Try.prog 9 [(false, [.bool])] (argL [(false, [.int .u16]), (false, [.int .u8])] rows) fun _ => .bool true := by
  match rows, h with
  | [r1, r2], h =>
    obtain ⟨h1, h2, _⟩ := h
    obtain ⟨x, rfl, a1, a2⟩ := fitU16 h1
    obtain ⟨y, rfl, b1, b2⟩ := fitU8 h2
    exact V.p9 a1 a2 b1 b2
theorem f_lifted (os : Os) (started : os.Started) (H : Type) (enc : TypeId × Value → H) :
    ReturnsInHanded {} Try.checked os 9 .any (Rows.ledgerFullSpec.pre6 enc Try.prog Try.f9 Rows.ledgerFullRow.domain false) (Rows.ledgerFullSpec.post enc Try.prog Try.f9 false true false false) := by
  refine returnsInHanded_of_change (C := Try.checked) Try.own started (by kernel_rfl) Try.func9
    (ChangeSpec.witness6 (enc := enc) (C := Try.checked) false ⟨#[], #[.int .u16 0, .int .u8 0], []⟩ 8 (by kernel_rfl) (by kernel_rfl) (by kernel_rfl) (by kernel_rfl)) ?_
  intro W base args ds gs before hval hW _ _
  refine law_contract (P := Try.prog) (lays := [(false, [.int .u16]), (false, [.int .u8])]) Try.laidOut (by kernel_rfl) rfl (by kernel_rfl) (t := 4) (by kernel_rfl) (of_decide_eq_true (by kernel_rfl)) ?_ law_pure hval hW
  intro ds hl
  have hs : Try.f9.params.size = 2 := by kernel_rfl
  rw [hs] at hl
  match ds, hl with
  | [_, _], _ => rfl
theorem full_holds : Rows.LedgerFullSaid :=
  OpenClaim.holds_of_wide 9 Try.f9 rfl rfl rfl rfl rfl rfl rfl ⟨rfl, rfl, rfl, rfl, rfl⟩ rfl rfl rfl rfl rfl (by kernel_rfl) Try.func9 (by kernel_rfl)
    (of_decide_eq_true (by kernel_rfl)) (by unfold Func.isWrapper; rw [if_neg (by decide +kernel)]; exact ⟨rfl, rfl⟩)
    (fun os started H enc _ => f_lifted os started H enc)
end Go.Proofs.Ytlmllogbaacoeaa
