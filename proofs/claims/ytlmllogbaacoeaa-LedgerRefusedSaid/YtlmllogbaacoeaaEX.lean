/- Arrays told as data; what lists a ledger's accounts is asked. No conditions. -/
import Derived.Test.YtlmllogbaacoeaaSame
set_option linter.unusedVariables false
set_option linter.unusedSimpArgs false
namespace Go.Eng
open Go.RowKit
section
variable {n0 : Nat} {s : St}
/-- An array that a temporary holds, as data. -/
theorem GSt.frzGr (t id : Nat) {T : TypeId} {lay : List LK} {xs : List (List C)} (ht : s.T[t]? = some (.gr id)) (ho : s.H[id]? = some (.arr T lay xs)) :
    GSt n0 s ⟨s.T.set t (.c (.sl lay xs)), s.H.set id (.frz lay xs)⟩ := by
  intro w0 G0 G a w hS
  obtain ⟨G', hH, hLe, hal⟩ := hS.hr.freeze ho
  have hid' : (s.H.set id (.frz lay xs))[id]? = some (.frz lay xs) := by rw [List.getElem?_set_self (lt_of_get ho)]
  refine ⟨G', by simp [hS.size], fun j h1 h2 => ?_, hH, hS.df, hS.le.trans hLe, hS.al0, fun i hi => hS.fr i (by rw [← hal]; exact hi), by simp; exact hS.n0⟩
  simp at h1
  have hv := (hS.val j h1 h2).mono hLe
  show VR _ ((s.T.set t (.c (.sl lay xs)))[j]'(by simpa using h1)) _
  rw [List.getElem_set]
  split
  · rename_i hj
    subst hj
    have e3 : s.T[t] = .gr id := by rw [List.getElem?_eq_getElem h1] at ht; exact Option.some.inj ht
    rw [e3] at hv
    exact gr_data hH hid' hv
  · exact hv
end
/-- What a call hands back may be told otherwise. -/
theorem ACalls.retell {P : Program} {f : FuncId} {xs : List A} {H : List O} {Q Q' : A → List O → Prop} (hq : ∀ r H', Q r H' → Fin H.length Q' r H') (h : ACalls P f xs H Q) : ACalls P f xs H Q' :=
  fun w0 w G vs h1 h2 h3 => (h w0 w G vs h1 h2 h3).mono fun e w' ⟨r, v, G', H', e1, e2, e3, e4, e5, e6, e7⟩ => by
    obtain ⟨r', H'', hf, hq'⟩ := hq _ _ e7
    obtain ⟨G'', g1, g2, g3, g4, g5⟩ := hf w0 G G' w' v e2 e3 h1.lt e4 e5 e6
    exact ⟨r', v, G'', H'', e1, g1, g2, g3, g4, g5, hq'⟩
/-- A part of an array that is handed back, as data. -/
theorem ACalls.ownData {P : Program} {f : FuncId} {al : List A} {H : List O} {T : TypeId} {lay : List LK} {K : List (List C) → Int → Prop} (k : Nat) (hk : k = H.length)
    (h : ACalls P f al H fun r H' => ∃ l n, K l n ∧ r = .own k 0 n ∧ H' = H ++ [.arr T lay l]) :
    ACalls P f al H fun r H' => ∃ l n, K l n ∧ r = .c (.sl lay (l.take n.toNat)) ∧ H' = H ++ [.frz lay l] := by
  subst hk
  refine h.retell fun r H' ⟨l, n, hK, hr, hH⟩ => ?_
  subst hr hH
  refine ⟨_, _, GFin.of ?_, l, n, hK, rfl, rfl⟩
  have e := GSt.frz (n0 := H.length) (s := (⟨[.own H.length 0 n], H ++ [.arr T lay l]⟩ : St)) [.own H.length 0 n]
  have ef : putW (H ++ [.arr T lay l]) (frzL (H ++ [.arr T lay l]) [.own H.length 0 n]) = H ++ [.frz lay l] := by
    simp [frzL, frzA, frz1, putW]
  simp only [ef] at e
  have ed : datT (H ++ [.frz lay l]) (.own H.length 0 n) = .c (.sl lay (l.take n.toNat)) := by
    simp [datT, dat, E0, stdE, baseE]
  simpa [ed] using e
end Go.Eng
namespace Go.Proofs.Ytlmllogbaacoeaa.V
open Go Go.Eng
def spAccD (x1 : List (List C)) (x2 : List (Int × C)) (K : List (List C) → Prop) : Prop := ∃ ps : List PT, x1 = rowsP ps ∧ (∀ p ∈ ps, chkP p = 0) ∧ ps.length ≤ 512 ∧ ∀ zs : List Int, zs.Pairwise (· < ·) → (∀ k, k ∈ zs ↔ k ∈ accL ps) → K (rowsI zs)
def AccDC (P : Program) (f : FuncId) : Prop := hasBody P f = true ∧ ∀ (x1 : List (List C)) (x2 : List (Int × C)) (K : List (List C) → Prop), spAccD x1 x2 K →
    ACalls P f [.ptr 0 0] (heapL x1 x2) fun r H' => ∃ d, K d ∧ r = .c (.sl [.int .i64] d) ∧ H' = heapL x1 x2
end Go.Proofs.Ytlmllogbaacoeaa.V
