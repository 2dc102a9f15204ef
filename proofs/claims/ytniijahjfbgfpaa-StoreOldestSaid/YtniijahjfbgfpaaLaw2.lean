/- Warehouses: calls in turn; the rolls of a bay. No conditions. -/
import Derived.Test.YtniijahjfbgfpaaCallsLaw
set_option linter.unusedVariables false
set_option linter.unusedSimpArgs false
namespace Go.Proofs.Ytniijahjfbgfpaa.V
open Go Go.Eng
set_option maxRecDepth 1000000
set_option maxHeartbeats 1000000
def Le (hs : List I5) : Prop := ∀ h ∈ hs, h.1 ≤ 1000000
theorem Le.drp {hs : List I5} (h : Le hs) (k : Int) : Le (drp hs k) := fun x hx => h x (mem_drp.1 hx).1
theorem Le.ent {bs : List I2} {hs : List I5} {tn la r w b t : Int} (h : Le hs) (hr : r ≤ 1000000) : Le (entM bs hs tn la r w b t).hs := by
  unfold entM
  split
  · exact h
  · split
    · exact h
    · intro x hx
      rcases List.mem_append.1 hx with hx | hx
      · exact h.drp r x hx
      · have : x = (r, b, t, w, tn + 1) := by simpa using hx
        subst this; exact hr
theorem Le.op {bs : List I2} {hs : List I5} {tn la k r w b t : Int} (h : Le hs) : Le (opO bs hs tn la k r w b t).hs := by
  unfold opO
  split
  · unfold putO
    split
    · exact h
    · rename_i h1
      repeat' split
      all_goals first | exact h | exact h.ent (by omega)
  · split
    · unfold movO
      split
      · exact h
      · rename_i x hf
        have hr : r ≤ 1000000 := (fnd_some hf).2 ▸ h x (fnd_some hf).1
        repeat' split
        all_goals first | exact h | exact h.ent hr
    · unfold takO
      split
      · exact h
      · exact h.drp r
theorem do_loop {bs : List I2} {l : List I5} {F : List (Int × List C) → Int → Int → Prop} (hl : l.length ≤ 120) (he : newE bs = 0) (hF : ∀ es tn la hs, Wh bs es tn la hs → Le hs → tn ≤ l.length → F es tn la) :
    LoopP4 (fun (m : List (Int × List C)) (i j k : Int) (K : List (Int × List C) → Int → Int → Int → Prop) => (k < (l.length : Int) → 0 ≤ k ∧ spDo (row2 bs) m i j (cellAt (row5 l) k.toNat 0).gi (cellAt (row5 l) k.toNat 1).gi (cellAt (row5 l) k.toNat 2).gi (cellAt (row5 l) k.toNat 3).gi (cellAt (row5 l) k.toNat 4).gi
      (fun m' i' j' n e => K m' i' j' (IntKind.i64.wrap (k + 1)))) ∧ (¬ k < (l.length : Int) → F m i j)) [] 0 0 0 := by
  have hw0 := Wh.nil he
  refine LoopP4.run (fun g : (List (Int × List C) × Int × Int) × List I5 × Nat => g.1.1) (fun g => g.1.2.1) (fun g => g.1.2.2) (fun g => (g.2.2 : Int)) (fun g => g.2.2 ≤ l.length ∧ Wh bs g.1.1 g.1.2.1 g.1.2.2 g.2.1 ∧ g.1.2.1 ≤ g.2.2 ∧ Le g.2.1) (fun g => l.length - g.2.2) (([], 0, 0), [], 0) ⟨Nat.zero_le _, hw0, Int.le_refl _, fun x hx => by cases hx⟩ rfl rfl rfl rfl ?_
  rintro ⟨⟨es, tn, la⟩, hs, n⟩ ⟨hn, hw, htn, hle⟩ K hK
  dsimp only at hn hw htn hle ⊢
  refine ⟨fun h => ⟨by omega, ?_⟩, fun h => ?_⟩
  · simp only [toNat_cast, row5_c0, row5_c1, row5_c2, row5_c3, row5_c4]
    generalize l.getD n z5 = op
    have ht1 := opO_tn bs hs tn la op.1 op.2.1 op.2.2.1 op.2.2.2.1 op.2.2.2.2
    have hle' := hle.op (bs := bs) (tn := tn) (la := la) (k := op.1) (r := op.2.1) (w := op.2.2.1) (b := op.2.2.2.1) (t := op.2.2.2.2)
    refine ⟨bs, hs, rfl, hw, by omega, fun es' hw' => ?_⟩
    generalize opO bs hs tn la op.1 op.2.1 op.2.2.1 op.2.2.2.1 op.2.2.2.2 = o at hw' ht1 hle'
    exact hK _ _ _ _ ((es', o.tn, o.la), o.hs, n + 1) ⟨by dsimp only; omega, hw', by dsimp only; omega, hle'⟩ (by dsimp only; omega) rfl rfl rfl (wrap_up rfl (by omega))
  · exact hF es tn la hs hw hle (by omega)
theorem spNew_of {x1 : List (List C)} {bs : List I2} {K0 : Int → Prop} {K1 : Prop} (hx : x1 = row2 bs) (h0 : newE bs ≠ 0 → K0 (newE bs)) (h1 : newE bs = 0 → K1) : spNew x1 K0 K1 := ⟨bs, hx, h0, h1⟩
/-! ### The rolls of a bay -/
def inB (hs : List I5) (b : Int) : List I5 := hs.filter fun h => decide (bayOf h = b)
theorem isB_nat {bs : List I2} {i : Nat} (h : i < bs.length) : isB bs i = true := by
  unfold isB
  rw [decide_eq_true (Int.natCast_nonneg i), decide_eq_true (by omega)]
  rfl
theorem bayL_in {bs : List I2} {b : Int} (h : isB bs b = true) (hs : List I5) : bayL bs hs b = (inB hs b).map slot3 := by
  unfold bayL inB
  rw [if_pos h]
theorem bayE_in {bs : List I2} {b : Int} (h : isB bs b = true) : bayE bs b = 0 := by unfold bayE; rw [if_pos h]
theorem mem_inB {hs : List I5} {b : Int} {h : I5} : h ∈ inB hs b ↔ h ∈ hs ∧ bayOf h = b := by simp [inB]
theorem inB_app (hs : List I5) (h : I5) (b : Int) : inB (hs ++ [h]) b = inB hs b ++ if bayOf h = b then [h] else [] := by
  unfold inB
  rw [List.filter_append]
  by_cases hb : bayOf h = b <;> simp [hb]
theorem inB_drp_ne {hs : List I5} (hn : (keys hs).Nodup) {r b : Int} {x : I5} (hf : fnd hs r = some x) (hb : bayOf x ≠ b) : inB (drp hs r) b = inB hs b := by
  unfold inB drp
  rw [List.filter_filter]
  refine List.filter_congr fun h hh => ?_
  obtain ⟨hx, hk⟩ := fnd_some hf
  by_cases e : r = h.1
  · have : h = x := key_unique hn hh hx (by rw [← e, hk])
    subst this
    simp [hb]
  · simp [e]
theorem inB_drp_eq {hs : List I5} {r : Int} {x : I5} (hf : fnd hs r = some x) : (inB (drp hs r) (bayOf x)).length < (inB hs (bayOf x)).length := by
  obtain ⟨hx, hk⟩ := fnd_some hf
  have hs' : (inB (drp hs r) (bayOf x)).Sublist (inB hs (bayOf x)) := (keys_drp_sub hs r).filter _
  refine Nat.lt_of_le_of_ne hs'.length_le fun e => ?_
  have e2 := hs'.eq_of_length e
  have : x ∈ inB (drp hs r) (bayOf x) := by rw [e2]; exact mem_inB.2 ⟨hx, rfl⟩
  exact (mem_drp.1 (mem_inB.1 this).1).2 hk
theorem slot_inj {a b : List I5} (h : a.map slot3 = b.map slot3) : a.length = b.length := by
  have := congrArg List.length h
  simpa using this
/-- How many of the first n numbers. -/
def cN (f : Nat → Bool) : Nat → Nat
  | 0 => 0
  | n + 1 => cN f n + if f n = true then 1 else 0
theorem cN_le (f : Nat → Bool) : ∀ n, cN f n ≤ n
  | 0 => Nat.le_refl _
  | n + 1 => by have := cN_le f n; rw [cN]; split <;> omega
theorem cN_zero {f : Nat → Bool} : ∀ {n}, (∀ i, i < n → f i = false) → cN f n = 0
  | 0, _ => rfl
  | n + 1, h => by rw [cN, cN_zero fun i hi => h i (by omega), if_neg (by rw [h n (by omega)]; simp)]
theorem cN_one {f : Nat → Bool} {a : Nat} : ∀ {n}, (∀ i, i < n → f i = decide (i = a)) → cN f n = if a < n then 1 else 0
  | 0, _ => by simp [cN]
  | n + 1, h => by
    rw [cN, cN_one fun i hi => h i (by omega), h n (by omega)]
    by_cases h1 : n = a
    · subst h1; simp
    · simp only [h1, decide_false, Bool.false_eq_true, if_false]
      by_cases h2 : a < n
      · rw [if_pos h2, if_pos (by omega)]
      · rw [if_neg h2, if_neg (by omega)]
theorem cN_two {f : Nat → Bool} {a b : Nat} (hab : a ≠ b) : ∀ {n}, (∀ i, i < n → f i = decide (i = a ∨ i = b)) → cN f n = (if a < n then 1 else 0) + if b < n then 1 else 0
  | 0, _ => by simp [cN]
  | n + 1, h => by
    have es : ∀ c : Nat, n ≠ c → (if c < n + 1 then 1 else 0 : Nat) = if c < n then 1 else 0 := fun c hc => by
      by_cases q : c < n
      · rw [if_pos q, if_pos (by omega)]
      · rw [if_neg q, if_neg (by omega)]
    rw [cN, cN_two hab fun i hi => h i (by omega), h n (by omega)]
    by_cases h1 : n = a
    · subst h1
      rw [es b hab]
      generalize (if b < n then 1 else 0 : Nat) = B
      simp only [Nat.lt_irrefl, if_false, true_or, decide_true, if_true, Nat.lt_succ_self]
      try omega
    · rw [es a h1]
      generalize (if a < n then 1 else 0 : Nat) = B
      by_cases h2 : n = b
      · subst h2
        simp only [Nat.lt_irrefl, if_false, or_true, decide_true, if_true, Nat.lt_succ_self]
        try omega
      · rw [es b h2]
        generalize (if b < n then 1 else 0 : Nat) = B'
        simp only [h1, h2, or_self, decide_false, Bool.false_eq_true, if_false]
        try omega
/-- An error changes nothing. -/
theorem opO_err {bs : List I2} {hs : List I5} {tn la k r w b t : Int} (h : (opO bs hs tn la k r w b t).e ≠ 0) : (opO bs hs tn la k r w b t).hs = hs := by
  revert h
  unfold opO putO movO takO entM
  repeat' split
  all_goals first | (intro _; rfl) | (intro h; exact absurd rfl h)
end Go.Proofs.Ytniijahjfbgfpaa.V
