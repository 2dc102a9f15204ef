/- Ledgers: the balance at a moment is that of a ledger with the postings up to it. No conditions. -/
import Derived.Test.YtlmllogbaacoeaaGF
import Derived.Test.YtlmllogbaacoeaaChkLaw
import Derived.Test.YtlmllogbaacoeaaLed
set_option linter.unusedVariables false
set_option linter.unusedSimpArgs false
namespace Go.Proofs.Ytlmllogbaacoeaa.V
open Go Go.Eng
set_option maxRecDepth 1000000
set_option maxHeartbeats 1000000
/-- The postings up to a moment. -/
def upTo (ps : List PT) (t : Int) : List PT := ps.filter fun p => decide (p.2.1 ≤ t)
/-- Postings come in the order of their moments. -/
def Srt (ps : List PT) : Prop := ps.Pairwise fun p q => p.2.1 ≤ q.2.1
theorem srt_last : ∀ {ps : List PT} {t : Int}, Srt ps → lateB ps t = false → ∀ q ∈ ps, q.2.1 ≤ t := by
  intro ps t hs hl q hq
  obtain ⟨i, hi, rfl⟩ := List.mem_iff_getElem.1 hq
  unfold lateB at hl
  have hl := of_decide_eq_false hl
  rw [getD_get (show ps.length - 1 < ps.length by omega)] at hl
  have hlast : ps[ps.length - 1].2.1 ≤ t := by
    have := show 0 < ps.length by omega
    omega
  by_cases e : i = ps.length - 1
  · subst e; exact hlast
  · have := List.pairwise_iff_getElem.1 hs i (ps.length - 1) hi (by omega) (by omega)
    omega
theorem srt_app {ps : List PT} {p : PT} (hs : Srt ps) (hl : lateB ps p.2.1 = false) : Srt (ps ++ [p]) := by
  refine List.pairwise_append.2 ⟨hs, List.pairwise_singleton _ _, fun q hq r hr => ?_⟩
  rw [List.mem_singleton.1 hr]
  exact srt_last hs hl q hq
theorem upTo_app (ps : List PT) (p : PT) (t : Int) : upTo (ps ++ [p]) t = if p.2.1 ≤ t then upTo ps t ++ [p] else upTo ps t := by
  unfold upTo
  rw [List.filter_append, List.filter_cons, List.filter_nil]
  by_cases h : p.2.1 ≤ t
  · rw [if_pos h]; simp [h]
  · rw [if_neg h]; simp [h]
theorem upTo_all {ps : List PT} {t : Int} (h : ∀ q ∈ ps, q.2.1 ≤ t) : upTo ps t = ps := List.filter_eq_self.2 fun q hq => decide_eq_true (h q hq)
/-- What is posted in time in the one is posted in the other. -/
theorem upTo_post {ps : List PT} {p : PT} {t : Int} (hs : Srt ps) (h : postE ps p = 0) (ht : p.2.1 ≤ t) : postE (upTo ps t) p = 0 := by
  rw [upTo_all fun q hq => ?_]
  · exact h
  · have := srt_last hs (post_ok h).2.2.1 q hq
    omega
theorem upTo_bal {t : Int} (k : Int) : ∀ {ps : List PT}, (∀ q ∈ ps, chkP q = 0) → bal (upTo ps t) k = balT ps k t := by
  intro ps
  refine snoc_ind (M := fun ps => (∀ q ∈ ps, chkP q = 0) → bal (upTo ps t) k = balT ps k t) (fun _ => rfl) (fun ps p ih h => ?_) ps
  · have h1 := ih fun q hq => h q (List.mem_append_left _ hq)
    have hp := h p (by simp)
    rw [upTo_app, balT_app, ← h1]
    by_cases ht : p.2.1 ≤ t
    · rw [if_pos ht, if_pos ht, bal_app _ hp]
    · rw [if_neg ht, if_neg ht]; omega
def S7 : List A → List C := fun _ => [.bool true]
def tbl7 : FuncId → List A → List C := fun f ds => match f with
  | 12 => S12 ds
  | 17 => S17 ds
  | _ => []
theorem pc7 (ce15 : NewC Try.prog 15) (ce18 : PostC Try.prog 18) (ce26 : BalC Try.prog 26) (ce28 : AtC Try.prog 28) {x1 : List (List C)} {x2 : Int} {x3 : Int} {row : List C} (hS : S7 [.c (.sl [.int .i64, .int .i64, .sl [.int .i64, .int .i64]] x1), .c (.int .i64 x2), .c (.int .i64 x3)] = row) (h : vc7 (stdE Try.prog tbl7) x1 x2 x3 fun c => c = row) : PCg Try.prog 7 S7 [(false, [.bool])] [.c (.sl [.int .i64, .int .i64, .sl [.int .i64, .int .i64]] x1), .c (.int .i64 x2), .c (.int .i64 x3)] := PureC_vc mo h7 (by kernel_rfl) hS (w7 ce15 ce18 ce26 ce28 h)
theorem p7 (qs : List PT) (k t : Int) : PureC Try.prog 7 [kB] [sP (rowsP qs), iC k, iC t] fun _ => .bool true := by
  refine PureC.one (get := fun i => (S7 [sP (rowsP qs), iC k, iC t]).getD i .nil) (pc7 c15 c18 c26 c28 (row := [.bool true]) rfl ?_) rfl
  unfold vc7 spNew
  simp only [stdE, baseE, Br_iff, Imp_iff, tbl7, forall_eq, rowsP_len, bite_or, bite_and, Bool.or_false]
  have hwd : ¬ (80 : Int) < qs.length → PCg Try.prog 17 S17 [kB] [sP (rowsP qs)] := fun h => p17 (by omega)
  simp only [p12, implies_true, true_and]
  refine ⟨fun h => hwd (by simpa using h), ?_⟩
  simp only [e12, e17, List.getD_cons_zero, gb_bool, Bool.and_true, Bool.or_eq_true, Bool.or_eq_false_iff, Bool.not_eq_true', Bool.not_eq_false', Bool.and_eq_true, Bool.and_eq_false_iff, beq_iff_eq, beq_eq_false_iff_ne, decide_eq_true_eq, decide_eq_false_iff_not, implies_true, true_and, and_true, reduceCtorEq, false_implies, forall_const]
  intro h
  have hl : qs.length ≤ 80 := by omega
  have hw := wide_no h.2
  refine LoopP5.run (fun p : Nat × List PT × List (Int × C) × List (Int × C) => rowsP p.2.1) (fun p => p.2.2.1) (fun p => rowsP (upTo p.2.1 t)) (fun p => p.2.2.2) (fun p => (p.1 : Int))
    (fun p => p.1 ≤ qs.length ∧ p.2.1.length ≤ p.1 ∧ Srt p.2.1 ∧ LInv p.2.1 p.2.2.1 ∧ LInv (upTo p.2.1 t) p.2.2.2) (fun p => qs.length - p.1) (0, [], [], []) ⟨Nat.zero_le _, Nat.le_refl _, List.Pairwise.nil, ⟨(fun q hq => by cases hq), Nat.zero_le _, fun k => rfl⟩, ⟨(fun q hq => by cases hq), Nat.zero_le _, fun k => rfl⟩⟩ rfl rfl rfl rfl rfl ?_
  rintro ⟨n, ps, m, m2⟩ ⟨hn, hpl, hs, hm, hm2⟩ K hK
  dsimp only at hn hpl hs hm hm2 ⊢
  simp only [toNat_cast, rowsP_c0, rowsP_c1, rowsP_c2]
  obtain ⟨p, hp⟩ : ∃ p, qs.getD n zP = p := ⟨_, rfl⟩
  rw [hp]
  refine ⟨fun h2 => ⟨by omega, ps, p.2.2, rfl, rfl, hm, fun he m' hm' => ?_, fun he m' hm' => ?_⟩, fun h2 => ?_⟩
  · refine ⟨fun hc => absurd hc.1 he, fun _ => hK _ _ _ _ _ (n + 1, ps, m', m2) ⟨by dsimp only; omega, by dsimp only; omega, hs, hm', hm2⟩ (by dsimp only; omega) rfl rfl rfl rfl (wrap_up rfl (by omega))⟩
  · have he' : postE ps p = 0 := he
    have hs' := srt_app hs (post_ok he').2.2.1
    have hl' : (ps ++ [p]).length ≤ n + 1 := by simp; omega
    refine ⟨fun hc => ?_, fun hc => ?_⟩
    · have hu := upTo_post hs he' hc
      refine ⟨upTo ps t, p.2.2, rfl, rfl, hm2, fun he2 => absurd hu he2, fun _ m2' hm2' => ⟨fun hx => absurd rfl hx.2, fun _ => hK _ _ _ _ _ (n + 1, ps ++ [p], m', m2') ⟨by dsimp only; omega, hl', hs', hm', ?_⟩ (by dsimp only; omega) rfl rfl ?_ rfl (wrap_up rfl (by omega))⟩⟩
      · dsimp only; rw [upTo_app, if_pos hc]; exact hm2'
      · dsimp only; rw [upTo_app, if_pos hc]
    · have ht : ¬ p.2.1 ≤ t := hc.resolve_left (fun h => h rfl)
      refine hK _ _ _ _ _ (n + 1, ps ++ [p], m', m2) ⟨by dsimp only; omega, hl', hs', hm', ?_⟩ (by dsimp only; omega) rfl rfl ?_ rfl (wrap_up rfl (by omega))
      · dsimp only; rw [upTo_app, if_neg ht]; exact hm2
      · dsimp only; rw [upTo_app, if_neg ht]
  · refine ⟨ps, rfl, hm.1, by omega, ?_⟩
    unfold spBal
    dsimp only
    rw [hm2.2.2 k, upTo_bal k hm.1]
    simp
end Go.Proofs.Ytlmllogbaacoeaa.V
