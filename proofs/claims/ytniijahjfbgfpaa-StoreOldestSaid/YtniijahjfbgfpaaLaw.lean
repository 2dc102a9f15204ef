/- Warehouses: finding rolls and the oldest of some. No conditions. -/
import Derived.Test.YtniijahjfbgfpaaEff2
set_option linter.unusedVariables false
set_option linter.unusedSimpArgs false
namespace Go.Proofs.Ytniijahjfbgfpaa.V
open Go Go.Eng
set_option maxRecDepth 1000000
set_option maxHeartbeats 1000000
def S11 : List A → List C := fun _ => [.bool true]
theorem e11 : S11 [] = [.bool true] := rfl
theorem p11 : PCg Try.prog 11 S11 [kB] [] := awake.one rfl
theorem putO_tn (bs : List I2) (hs : List I5) (tn la r w b t : Int) : (putO bs hs tn la r w b t).tn ≤ tn + 1 := by
  unfold putO entM
  repeat' split
  all_goals (dsimp only; omega)
theorem movO_tn (bs : List I2) (hs : List I5) (tn la r b t : Int) : (movO bs hs tn la r b t).tn ≤ tn + 1 := by
  unfold movO entM
  repeat' split
  all_goals (dsimp only; omega)
theorem takO_tn (hs : List I5) (tn la r : Int) : (takO hs tn la r).tn ≤ tn + 1 := by
  unfold takO
  split
  all_goals (dsimp only; omega)
theorem opO_tn (bs : List I2) (hs : List I5) (tn la k r w b t : Int) : (opO bs hs tn la k r w b t).tn ≤ tn + 1 := by
  unfold opO
  split
  · exact putO_tn ..
  · split
    · exact movO_tn ..
    · exact takO_tn ..
/-! ### Where a roll is -/
theorem fnd_val {bs : List I2} {es : List (Int × List C)} {tn la : Int} {hs : List I5} (h : Wh bs es tn la hs) (k : Int) : fndV es k = match fnd hs k with
    | some x => slot3 x
    | none => (0, 0, 0) := by
  cases hf : fnd hs k with
  | none =>
    have : mfind k es = none := by rw [h.find, hf]; rfl
    simp only [fndV, mlook, this]
    rfl
  | some x =>
    unfold fndV
    rw [h.look hf, h.look hf, h.look hf]
    rfl
theorem find_same {bs : List I2} {es : List (Int × List C)} {tn la : Int} {hs : List I5} (h : Wh bs es tn la hs) (k : Int) :
    [C.int .i64 (fndV es k).1, .int .i64 (fndV es k).2.1, .int .i64 (fndV es k).2.2, .bool (isV (fndV es k))] = rfV (hs.map itm) k := by
  rw [fnd_val h, rfV, fnd4_map]
  cases hf : fnd hs k with
  | none => rfl
  | some x =>
    have hr := h.inv.ro x (fnd_some hf).1
    have : isV (slot3 x) = true := by
      unfold isV slot3
      have : (x.1 == 0) = false := by simp; omega
      simp [this]
    simp only [Option.map_some, this]
    rfl
/-! ### The oldest of some -/
def OldOk (hs : List I5) (best : I5) (P : I5 → Prop) : Prop :=
  (turnOf best = 0 ∧ ∀ h ∈ hs, ¬ P h) ∨ (best ∈ hs ∧ P best ∧ ∀ h ∈ hs, P h → turnOf best ≤ turnOf h)
theorem old_ok {bs : List I2} {es : List (Int × List C)} {tn la : Int} {hs : List I5} (hw : Wh bs es tn la hs) : ∀ (ks : List Int) (best : I5) (P : I5 → Prop), OldOk hs best P → OldOk hs (oldF es ks best) fun h => P h ∨ h.1 ∈ ks
  | [], best, P, ho => by simpa [oldF] using ho
  | k :: ks, best, P, ho => by
    have key : OldOk hs (oldS es k best) fun h => P h ∨ h.1 = k := by
      unfold oldS
      cases hf : fnd hs k with
      | none =>
        have : (mfind k es).isSome = false := by rw [hw.has, hf]; rfl
        rw [if_neg (by rw [this]; simp)]
        have hn := fnd_none hf
        rcases ho with ⟨h1, h2⟩ | ⟨h1, h2, h3⟩
        · exact .inl ⟨h1, fun h hh hP => hP.elim (h2 h hh) fun e => hn h hh e.symm⟩
        · exact .inr ⟨h1, .inl h2, fun h hh hP => hP.elim (h3 h hh) fun e => absurd e.symm (hn h hh)⟩
      | some x =>
        have h0 : (mfind k es).isSome = true := by rw [hw.has, hf]; rfl
        obtain ⟨hx, hk⟩ := fnd_some hf
        have hrow : rowE es k = x := by unfold rowE; rw [hw.look hf, hw.look hf, hw.look hf, hw.look hf, hw.look hf]; rfl
        have huniq : ∀ h ∈ hs, h.1 = k → h = x := fun h hh e => key_unique hw.inv.nd hh hx (e.trans hk.symm)
        rw [h0, hrow, Bool.true_and]
        rcases ho with ⟨h1, h2⟩ | ⟨h1, h2, h3⟩
        · rw [if_pos (by simp [h1])]
          exact .inr ⟨hx, .inr hk, fun h hh hP => hP.elim (fun hp => absurd hp (h2 h hh)) fun e => by rw [huniq h hh e]; exact Int.le_refl _⟩
        · have hb := (hw.inv.tb best h1).1
          have hne : ¬ (turnOf best == 0) = true := by simp; omega
          rw [if_neg hne]
          by_cases hlt : turnOf x < turnOf best
          · rw [if_pos (by simpa using hlt)]
            exact .inr ⟨hx, .inr hk, fun h hh hP => hP.elim (fun hp => by have := h3 h hh hp; omega) fun e => by rw [huniq h hh e]; exact Int.le_refl _⟩
          · rw [if_neg (by simpa using hlt)]
            exact .inr ⟨h1, .inl h2, fun h hh hP => hP.elim (h3 h hh) fun e => by rw [huniq h hh e]; omega⟩
    have := old_ok hw ks (oldS es k best) _ key
    rw [oldF]
    simp only [List.mem_cons]
    simpa only [or_assoc] using this
theorem old_same {bs : List I2} {es : List (Int × List C)} {tn la : Int} {hs : List I5} (hw : Wh bs es tn la hs) (ks : List Int) :
    (if turnOf (oldF es ks z5) = 0 then [C.int .i64 0, .int .i64 7] else [.int .i64 (oldF es ks z5).1, .int .i64 0]) = oldR (hs.map itm) ks := by
  have ho := old_ok hw ks z5 (fun _ => False) (.inl ⟨rfl, fun _ _ h => h⟩)
  have e1 : (hs.map itm).find? (fun x => ks.any fun k => k == x.1) = (hs.find? fun h => ks.any fun k => k == h.1).map itm := by rw [List.find?_map]; rfl
  unfold oldR
  rw [e1]
  generalize oldF es ks z5 = best at ho
  have hany : ∀ h : I5, (ks.any fun k => k == h.1) = true ↔ h.1 ∈ ks := fun h => by simp
  rcases ho with ⟨h1, h2⟩ | ⟨h1, h2, h3⟩
  · have : (hs.find? fun h => ks.any fun k => k == h.1) = none := List.find?_eq_none.2 fun h hh hp => h2 h hh (.inr ((hany h).1 hp))
    rw [if_pos h1, this]; rfl
  · have hb := (hw.inv.tb best h1).1
    rw [if_neg (by omega)]
    have : (hs.find? fun h => ks.any fun k => k == h.1) = some best := by
      obtain ⟨i, hi, rfl⟩ := List.getElem_of_mem h1
      refine List.find?_eq_some_iff_getElem.2 ⟨(hany _).2 (h2.resolve_left id), i, hi, rfl, fun j hj => ?_⟩
      rw [Bool.not_eq_true']
      cases hc : (ks.any fun k => k == hs[j].1) with
      | false => rfl
      | true =>
        have l1 := h3 hs[j] (List.getElem_mem (by omega)) (.inr ((hany _).1 hc))
        have l2 := List.pairwise_iff_getElem.1 hw.inv.tu j i (by omega) hi hj
        omega
    rw [this]
    rfl
end Go.Proofs.Ytniijahjfbgfpaa.V
