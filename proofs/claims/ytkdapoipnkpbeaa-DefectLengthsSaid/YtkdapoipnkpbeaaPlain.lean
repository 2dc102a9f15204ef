/- Spans, plainly: the pieces between their ends make the normal form. No program; no conditions. -/
import Derived.Test.YtkdapoipnkpbeaaSpan
set_option linter.unusedVariables false
set_option linter.unusedSimpArgs false
namespace Go.Span
/-- In one of the spans. -/
def hasB (zs : List (Int × Int)) (x : Int) : Bool := zs.any fun z => decide (z.1 ≤ x ∧ x < z.2)
theorem hasB_iff (zs : List (Int × Int)) (x : Int) : hasB zs x = true ↔ mem zs x := by
  unfold hasB mem; simp
/-- An ascending list, and a number more. -/
def ins (l : List Int) (n : Int) : List Int :=
  if n ∈ l then l else (l.takeWhile fun x => decide (x < n)) ++ n :: l.dropWhile fun x => decide (x < n)
def endsTo (zs : List (Int × Int)) (i : Nat) : List Int := (zs.take i).foldl (fun l z => ins (ins l z.1) z.2) []
theorem tw_mem {l : List Int} {n : Int} (hs : l.Pairwise (· < ·)) : (∀ x ∈ l.takeWhile fun x => decide (x < n), x < n) ∧ (∀ x ∈ l.dropWhile fun x => decide (x < n), n ≤ x) := by
  induction l with
  | nil => simp
  | cons a l ih =>
    rw [List.pairwise_cons] at hs
    obtain ⟨h1, h2⟩ := ih hs.2
    by_cases h : a < n
    · simp only [List.takeWhile_cons, List.dropWhile_cons, h, decide_true, if_true]
      refine ⟨fun x hx => ?_, h2⟩
      rcases List.mem_cons.1 hx with rfl | hx
      · exact h
      · exact h1 x hx
    · simp only [List.takeWhile_cons, List.dropWhile_cons, h, decide_false, Bool.false_eq_true, if_false]
      refine ⟨fun x hx => by simp at hx, fun x hx => ?_⟩
      rcases List.mem_cons.1 hx with rfl | hx
      · omega
      · have := hs.1 x hx; omega
theorem ins_ok {l : List Int} (hs : l.Pairwise (· < ·)) (n : Int) : (ins l n).Pairwise (· < ·) ∧ (∀ x, x ∈ ins l n ↔ x ∈ l ∨ x = n) ∧ (ins l n).length ≤ l.length + 1 := by
  unfold ins
  split
  · rename_i h
    exact ⟨hs, fun x => ⟨.inl, fun k => k.elim id fun e => e ▸ h⟩, by omega⟩
  · rename_i h
    obtain ⟨h1, h2⟩ := tw_mem (n := n) hs
    have e : l.takeWhile (fun x => decide (x < n)) ++ l.dropWhile (fun x => decide (x < n)) = l := List.takeWhile_append_dropWhile
    generalize l.takeWhile (fun x => decide (x < n)) = a at *
    generalize l.dropWhile (fun x => decide (x < n)) = b at *
    subst e
    rw [List.pairwise_append] at hs
    have h3 : ∀ x ∈ b, n < x := fun x hx => by
      have := h2 x hx
      have : x ≠ n := fun e => h (by simp [← e, hx])
      omega
    refine ⟨List.pairwise_append.2 ⟨hs.1, List.pairwise_cons.2 ⟨h3, hs.2.1⟩, fun x hx y hy => ?_⟩, fun x => ?_, by simp; omega⟩
    · rcases List.mem_cons.1 hy with rfl | hy
      · exact h1 x hx
      · have := h1 x hx; have := h3 y hy; omega
    · simp only [List.mem_append, List.mem_cons]
      constructor
      · rintro (k | k | k) <;> simp [k]
      · rintro ((k | k) | k) <;> simp [k]
theorem endsTo_succ {zs : List (Int × Int)} {i : Nat} (h : i < zs.length) : endsTo zs (i + 1) = ins (ins (endsTo zs i) (zs.getD i (0, 0)).1) (zs.getD i (0, 0)).2 := by
  unfold endsTo
  rw [List.take_add_one, List.foldl_append]
  simp [List.getD, h]
theorem endsTo_ok (zs : List (Int × Int)) : ∀ i, i ≤ zs.length → (endsTo zs i).Pairwise (· < ·) ∧ (∀ x, x ∈ endsTo zs i ↔ ∃ z ∈ zs.take i, x = z.1 ∨ x = z.2) ∧ (endsTo zs i).length ≤ 2 * i
  | 0, _ => by simp [endsTo]
  | i + 1, hi => by
    obtain ⟨h1, h2, h3⟩ := endsTo_ok zs i (by omega)
    have hlt : i < zs.length := hi
    have hg : zs.getD i (0, 0) = zs[i] := by simp [List.getD, hlt]
    obtain ⟨k1, k2, k3⟩ := ins_ok h1 (zs.getD i (0, 0)).1
    obtain ⟨j1, j2, j3⟩ := ins_ok k1 (zs.getD i (0, 0)).2
    rw [endsTo_succ hlt]
    refine ⟨j1, fun x => ?_, by omega⟩
    rw [j2, k2, h2, hg, List.take_add_one, List.getElem?_eq_getElem hlt]
    simp only [Option.toList_some, List.mem_append, List.mem_singleton]
    constructor
    · rintro ((⟨z, hz, e⟩ | e) | e)
      · exact ⟨z, .inl hz, e⟩
      · exact ⟨_, .inr rfl, .inl e⟩
      · exact ⟨_, .inr rfl, .inr e⟩
    · rintro ⟨z, hz | rfl, e⟩
      · exact .inl (.inl ⟨z, hz, e⟩)
      · rcases e with e | e
        · exact .inl (.inr e)
        · exact .inr e
def cutsP (zs : List (Int × Int)) : List Int := endsTo zs zs.length
/-- One piece more. -/
def cstep (zs : List (Int × Int)) (out : List (Int × Int)) (a b : Int) : List (Int × Int) :=
  if hasB zs a then (match out.getLast? with
    | some t => if t.2 = a then out.dropLast ++ [(t.1, b)] else out ++ [(a, b)]
    | none => out ++ [(a, b)]) else out
def combTo (zs : List (Int × Int)) (cs : List Int) : Nat → List (Int × Int)
  | 0 => []
  | i + 1 => cstep zs (combTo zs cs i) (cs.getD i 0) (cs.getD (i + 1) 0)
theorem cstep_len (zs out : List (Int × Int)) (a b : Int) : (cstep zs out a b).length ≤ out.length + 1 := by
  unfold cstep
  split
  · split
    · split
      · simp
      · simp
    · simp
  · omega
theorem combTo_len (zs : List (Int × Int)) (cs : List Int) : ∀ i, (combTo zs cs i).length ≤ i
  | 0 => Nat.le_refl _
  | i + 1 => Nat.le_trans (cstep_len _ _ _ _) (Nat.succ_le_succ (combTo_len zs cs i))
theorem mem_snoc (o : List (Int × Int)) (t : Int × Int) (x : Int) : mem (o ++ [t]) x ↔ mem o x ∨ (t.1 ≤ x ∧ x < t.2) := by
  rw [mem_append, mem_cons]; simp [mem_nil]
theorem cstep_ok {zs out : List (Int × Int)} {a b : Int} (hab : a < b) (h : NF out) (hb : ∀ z ∈ out, z.2 ≤ a) (hm : ∀ x, mem out x ↔ mem zs x ∧ x < a) (hc : ∀ x, a ≤ x → x < b → (mem zs x ↔ mem zs a)) :
    NF (cstep zs out a b) ∧ (∀ z ∈ cstep zs out a b, z.2 ≤ b) ∧ ∀ x, mem (cstep zs out a b) x ↔ mem zs x ∧ x < b := by
  have hx : ∀ x, (mem out x ∨ (a ≤ x ∧ x < b ∧ mem zs a)) ↔ mem zs x ∧ x < b := fun x => by
    rw [hm]
    constructor
    · rintro (⟨k1, k2⟩ | ⟨k1, k2, k3⟩)
      · exact ⟨k1, by omega⟩
      · exact ⟨(hc x k1 k2).2 k3, k2⟩
    · rintro ⟨k1, k2⟩
      by_cases q : x < a
      · exact .inl ⟨k1, q⟩
      · exact .inr ⟨by omega, k2, (hc x (by omega) k2).1 k1⟩
  unfold cstep
  split
  · rename_i hh
    rw [hasB_iff] at hh
    have hx' : ∀ x, (mem out x ∨ (a ≤ x ∧ x < b)) ↔ mem zs x ∧ x < b := fun x => by rw [← hx]; simp [hh]
    have app : (∀ z ∈ out, z.2 < a) → NF (out ++ [(a, b)]) ∧ (∀ z ∈ out ++ [(a, b)], z.2 ≤ b) ∧ ∀ x, mem (out ++ [(a, b)]) x ↔ mem zs x ∧ x < b := fun hlt => by
      refine ⟨⟨fun z hz => ?_, List.pairwise_append.2 ⟨h.2, by simp, fun u hu v hv => ?_⟩⟩, fun z hz => ?_, fun x => by rw [mem_snoc]; exact hx' x⟩
      · rcases List.mem_append.1 hz with hz | hz
        · exact h.1 z hz
        · simp at hz; subst hz; exact hab
      · simp at hv; subst hv; exact hlt u hu
      · rcases List.mem_append.1 hz with hz | hz
        · have := hb z hz; omega
        · simp at hz; subst hz; exact Int.le_refl _
    split
    · rename_i t ht
      obtain ⟨o, rfl⟩ := List.getLast?_eq_some_iff.1 ht
      have hp := List.pairwise_append.1 h.2
      have htt := h.1 t (by simp)
      have htb := hb t (by simp)
      split
      · rename_i he
        rw [List.dropLast_concat]
        refine ⟨⟨fun z hz => ?_, List.pairwise_append.2 ⟨hp.1, by simp, fun u hu v hv => ?_⟩⟩, fun z hz => ?_, fun x => ?_⟩
        · rcases List.mem_append.1 hz with hz | hz
          · exact h.1 z (by simp [hz])
          · simp at hz; subst hz; simp only; omega
        · simp at hv; subst hv; exact hp.2.2 u hu t (by simp)
        · rcases List.mem_append.1 hz with hz | hz
          · have := hb z (by simp [hz]); omega
          · simp at hz; subst hz; exact Int.le_refl _
        · rw [← hx' x, mem_snoc, mem_snoc]
          constructor
          · rintro (k | k)
            · exact .inl (.inl k)
            · by_cases q : x < a
              · exact .inl (.inr ⟨k.1, by omega⟩)
              · exact .inr ⟨by omega, k.2⟩
          · rintro ((k | k) | k)
            · exact .inl k
            · exact .inr ⟨k.1, by simp only; omega⟩
            · exact .inr ⟨by simp only; omega, k.2⟩
      · rename_i he
        refine app fun z hz => ?_
        rcases List.mem_append.1 hz with hz | hz
        · have := hp.2.2 z hz t (by simp); omega
        · simp at hz; subst hz; omega
    · rename_i ht
      have : out = [] := by simpa using ht
      subst this
      exact app fun z hz => by cases hz
  · rename_i hh
    have hh' : ¬ mem zs a := fun k => hh ((hasB_iff zs a).2 k)
    exact ⟨h, fun z hz => by have := hb z hz; omega, fun x => by rw [← hx]; simp [hh']⟩
theorem combTo_ok {zs : List (Int × Int)} {cs : List Int} (hs : cs.Pairwise (· < ·)) (hm : ∀ z ∈ zs, z.1 ∈ cs ∧ z.2 ∈ cs) : ∀ i, (h : i < cs.length) →
    NF (combTo zs cs i) ∧ (∀ z ∈ combTo zs cs i, z.2 ≤ cs[i]) ∧ ∀ x, mem (combTo zs cs i) x ↔ mem zs x ∧ x < cs[i] := by
  have hp := List.pairwise_iff_getElem.1 hs
  have idx : ∀ i (h : i < cs.length) (y : Int), y ∈ cs → cs[i] < y → ∃ j, ∃ hj : j < cs.length, y = cs[j] ∧ i < j := fun i h y hy hlt => by
    obtain ⟨j, hj, rfl⟩ := List.mem_iff_getElem.1 hy
    refine ⟨j, hj, rfl, ?_⟩
    rcases Nat.lt_trichotomy i j with k | k | k
    · exact k
    · subst k; omega
    · have := hp j i hj h k; omega
  have mono : ∀ i j (h : i < cs.length) (hj : j < cs.length), i ≤ j → cs[i] ≤ cs[j] := fun i j h hj hij => by
    by_cases e : i = j
    · subst e; exact Int.le_refl _
    · have := hp i j h hj (by omega); omega
  intro i
  induction i with
  | zero =>
    intro h
    refine ⟨⟨by simp [combTo], by simp [combTo]⟩, by simp [combTo], fun x => ⟨fun k => absurd k (mem_nil x), ?_⟩⟩
    rintro ⟨⟨z, hz, k1, _⟩, k2⟩
    obtain ⟨j, hj, e⟩ := List.mem_iff_getElem.1 (hm z hz).1
    have := mono 0 j h hj (Nat.zero_le _)
    omega
  | succ i ih =>
    intro h
    obtain ⟨h1, h2, h3⟩ := ih (by omega)
    have e1 : cs.getD i 0 = cs[i] := by simp [List.getD, show i < cs.length by omega]
    have e2 : cs.getD (i + 1) 0 = cs[i + 1] := by simp [List.getD, h]
    rw [combTo, e1, e2]
    refine cstep_ok (hp i (i + 1) (by omega) h (by omega)) h1 h2 h3 fun x k1 k2 => ?_
    constructor
    · rintro ⟨z, hz, a, b⟩
      refine ⟨z, hz, Int.not_lt.1 fun q => ?_, by omega⟩
      obtain ⟨j, hj, e, hij⟩ := idx i (by omega) _ (hm z hz).1 q
      have := mono (i + 1) j h hj hij
      omega
    · rintro ⟨z, hz, a, b⟩
      refine ⟨z, hz, by omega, ?_⟩
      obtain ⟨j, hj, e, hij⟩ := idx i (by omega) _ (hm z hz).2 b
      have := mono (i + 1) j h hj hij
      omega
/-- The pieces between the ends make the normal form. -/
theorem comb_nf (zs : List (Int × Int)) : combTo zs (cutsP zs) ((cutsP zs).length - 1) = nf zs := by
  obtain ⟨h1, h2, _⟩ := endsTo_ok zs zs.length (Nat.le_refl _)
  rw [List.take_length] at h2
  have hm : ∀ z ∈ zs, z.1 ∈ cutsP zs ∧ z.2 ∈ cutsP zs := fun z hz => ⟨(h2 _).2 ⟨z, hz, .inl rfl⟩, (h2 _).2 ⟨z, hz, .inr rfl⟩⟩
  by_cases h0 : (cutsP zs).length = 0
  · have : zs = [] := by
      cases zs with
      | nil => rfl
      | cons z zs => have := (hm z (by simp)).1; rw [List.length_eq_zero_iff.1 h0] at this; cases this
    subst this
    rfl
  · obtain ⟨k1, k2, k3⟩ := combTo_ok h1 hm ((cutsP zs).length - 1) (by show _ < (cutsP zs).length; omega)
    refine nf_unique k1 fun x => ?_
    rw [show combTo zs (cutsP zs) = combTo zs (endsTo zs zs.length) from rfl, k3]
    constructor
    · exact fun k => k.1
    · rintro ⟨z, hz, a, b⟩
      refine ⟨⟨z, hz, a, b⟩, ?_⟩
      obtain ⟨j, hj, e⟩ := List.mem_iff_getElem.1 (hm z hz).2
      have hp := List.pairwise_iff_getElem.1 h1
      have hl : (cutsP zs).length - 1 < (cutsP zs).length := by omega
      have : (cutsP zs)[j] ≤ (cutsP zs)[(cutsP zs).length - 1] := by
        by_cases q : j = (cutsP zs).length - 1
        · subst q; exact Int.le_refl _
        · have := hp j ((cutsP zs).length - 1) hj hl (by omega)
          exact Int.le_of_lt this
      have e2 : (endsTo zs zs.length)[(cutsP zs).length - 1] = (cutsP zs)[(cutsP zs).length - 1] := rfl
      omega
/-- All ends. -/
def flat : List (Int × Int) → List Int
  | [] => []
  | z :: zs => z.1 :: z.2 :: flat zs
theorem flat_len : ∀ zs, (flat zs).length = 2 * zs.length
  | [] => rfl
  | z :: zs => by simp [flat, flat_len zs]; omega
theorem flat_append : ∀ a b, flat (a ++ b) = flat a ++ flat b
  | [], b => rfl
  | z :: a, b => by simp [flat, flat_append a b]
theorem flat_get0 : ∀ (zs : List (Int × Int)) (j : Nat), (flat zs).getD (2 * j) 0 = (zs.getD j (0, 0)).1
  | [], j => by simp [flat]
  | z :: zs, 0 => rfl
  | z :: zs, j + 1 => by
    rw [show 2 * (j + 1) = 2 * j + 2 by omega]
    simpa [flat] using flat_get0 zs j
theorem flat_get1 : ∀ (zs : List (Int × Int)) (j : Nat), (flat zs).getD (2 * j + 1) 0 = (zs.getD j (0, 0)).2
  | [], j => by simp [flat]
  | z :: zs, 0 => rfl
  | z :: zs, j + 1 => by
    rw [show 2 * (j + 1) + 1 = (2 * j + 1) + 2 by omega]
    simpa [flat] using flat_get1 zs j
theorem flat_low : ∀ {zs : List (Int × Int)} {c : Int}, NF zs → (∀ z ∈ zs, c < z.1) → ∀ x ∈ flat zs, c < x
  | [], c, _, _, x, hx => by cases hx
  | z :: zs, c, h, hc, x, hx => by
    have h1 := hc z (by simp)
    have h2 := h.1 z (by simp)
    rcases List.mem_cons.1 hx with rfl | hx
    · exact h1
    · rcases List.mem_cons.1 hx with rfl | hx
      · omega
      · exact flat_low h.tail (fun y hy => hc y (by simp [hy])) x hx
theorem flat_sorted : ∀ {zs : List (Int × Int)}, NF zs → (flat zs).Pairwise (· < ·)
  | [], _ => .nil
  | z :: zs, h => by
    have h2 := h.1 z (by simp)
    have h3 := flat_low (c := z.2) h.tail fun y hy => (List.pairwise_cons.1 h.2).1 y hy
    refine List.pairwise_cons.2 ⟨fun x hx => ?_, List.pairwise_cons.2 ⟨h3, flat_sorted h.tail⟩⟩
    rcases List.mem_cons.1 hx with rfl | hx
    · exact h2
    · have := h3 x hx; omega
theorem flat_sort {zs : List (Int × Int)} (h : NF zs) : ((flat zs).mergeSort fun x y => decide (x ≤ y)) = flat zs :=
  List.mergeSort_of_pairwise ((flat_sorted h).imp fun k => by simp; omega)
theorem NF.get_lt {zs : List (Int × Int)} (h : NF zs) {j : Nat} (hj : j < zs.length) : (zs.getD j (0, 0)).1 < (zs.getD j (0, 0)).2 := by
  have : zs.getD j (0, 0) = zs[j] := by simp [List.getD, hj]
  rw [this]; exact h.1 _ (List.getElem_mem hj)
theorem NF.get_gap {zs : List (Int × Int)} (h : NF zs) {j : Nat} (hj : j + 1 < zs.length) : (zs.getD j (0, 0)).2 < (zs.getD (j + 1) (0, 0)).1 := by
  have e1 : zs.getD j (0, 0) = zs[j] := by simp [List.getD, show j < zs.length by omega]
  have e2 : zs.getD (j + 1) (0, 0) = zs[j + 1] := by simp [List.getD, hj]
  rw [e1, e2]; exact (List.pairwise_iff_getElem.1 h.2) j (j + 1) (by omega) hj (by omega)
theorem nf_self {zs : List (Int × Int)} (h : NF zs) : nf zs = zs := (nf_unique h fun _ => Iff.rfl).symm
end Go.Span
