/- Spans of integers, plainly: normal forms, and how many integers they hold. No program; no conditions. -/
set_option linter.unusedVariables false
set_option linter.unusedSimpArgs false
namespace Go.Span
/-- x is in one of the spans. -/
def mem (zs : List (Int × Int)) (x : Int) : Prop := ∃ z ∈ zs, z.1 ≤ x ∧ x < z.2
instance (zs : List (Int × Int)) (x : Int) : Decidable (mem zs x) := by unfold mem; infer_instance
/-- The normal form: no span is empty, and between two of them is a gap. -/
def NF (zs : List (Int × Int)) : Prop := (∀ z ∈ zs, z.1 < z.2) ∧ zs.Pairwise fun a b => a.2 < b.1
theorem mem_nil (x : Int) : ¬ mem [] x := fun ⟨z, h, _⟩ => by cases h
theorem mem_cons (z : Int × Int) (zs : List (Int × Int)) (x : Int) : mem (z :: zs) x ↔ (z.1 ≤ x ∧ x < z.2) ∨ mem zs x := by
  constructor
  · rintro ⟨y, hy, h⟩
    rcases List.mem_cons.1 hy with rfl | hy
    · exact .inl h
    · exact .inr ⟨y, hy, h⟩
  · rintro (h | ⟨y, hy, h⟩)
    · exact ⟨z, by simp, h⟩
    · exact ⟨y, by simp [hy], h⟩
theorem mem_append (a b : List (Int × Int)) (x : Int) : mem (a ++ b) x ↔ mem a x ∨ mem b x := by
  constructor
  · rintro ⟨y, hy, h⟩
    rcases List.mem_append.1 hy with hy | hy
    · exact .inl ⟨y, hy, h⟩
    · exact .inr ⟨y, hy, h⟩
  · rintro (⟨y, hy, h⟩ | ⟨y, hy, h⟩)
    · exact ⟨y, by simp [hy], h⟩
    · exact ⟨y, by simp [hy], h⟩
theorem mem_perm {a b : List (Int × Int)} (h : a.Perm b) (x : Int) : mem a x ↔ mem b x :=
  ⟨fun ⟨z, hz, k⟩ => ⟨z, h.mem_iff.1 hz, k⟩, fun ⟨z, hz, k⟩ => ⟨z, h.mem_iff.2 hz, k⟩⟩
theorem NF.tail {z : Int × Int} {zs : List (Int × Int)} (h : NF (z :: zs)) : NF zs := ⟨fun y hy => h.1 y (by simp [hy]), (List.pairwise_cons.1 h.2).2⟩
theorem NF.low {z : Int × Int} {zs : List (Int × Int)} (h : NF (z :: zs)) {x : Int} (hx : mem zs x) : z.2 < x := by
  obtain ⟨y, hy, h1, _⟩ := hx
  have := (List.pairwise_cons.1 h.2).1 y hy
  omega
theorem NF.head_le {z : Int × Int} {zs : List (Int × Int)} (h : NF (z :: zs)) {x : Int} (hx : mem (z :: zs) x) : z.1 ≤ x := by
  rcases (mem_cons _ _ _).1 hx with k | k
  · exact k.1
  · have := h.low k
    have := h.1 z (by simp)
    omega
/-- A set of integers has one normal form. -/
theorem NF.unique : ∀ {a b : List (Int × Int)}, NF a → NF b → (∀ x, mem a x ↔ mem b x) → a = b
  | [], [], _, _, _ => rfl
  | [], y :: b, _, hb, h => absurd ((h y.1).2 ⟨y, by simp, by have := hb.1 y (by simp); omega⟩) (mem_nil _)
  | z :: a, [], ha, _, h => absurd ((h z.1).1 ⟨z, by simp, by have := ha.1 z (by simp); omega⟩) (mem_nil _)
  | z :: a, y :: b, ha, hb, h => by
    have hz := ha.1 z (by simp)
    have hy := hb.1 y (by simp)
    have e1 : z.1 = y.1 := by
      have k1 := hb.head_le ((h z.1).1 ⟨z, by simp, by omega⟩)
      have k2 := ha.head_le ((h y.1).2 ⟨y, by simp, by omega⟩)
      omega
    have e2 : z.2 = y.2 := by
      rcases Int.lt_trichotomy z.2 y.2 with k | k | k
      · exfalso
        rcases (mem_cons _ _ _).1 ((h z.2).2 ⟨y, by simp, by omega⟩) with q | q
        · omega
        · have := ha.low q; omega
      · exact k
      · exfalso
        rcases (mem_cons _ _ _).1 ((h y.2).1 ⟨z, by simp, by omega⟩) with q | q
        · omega
        · have := hb.low q; omega
    have e3 : z = y := Prod.ext e1 e2
    subst e3
    rw [NF.unique ha.tail hb.tail fun x => ⟨fun q => ?_, fun q => ?_⟩]
    · have := ha.low q
      rcases (mem_cons _ _ _).1 ((h x).1 ((mem_cons _ _ _).2 (.inr q))) with k | k
      · omega
      · exact k
    · have := hb.low q
      rcases (mem_cons _ _ _).1 ((h x).2 ((mem_cons _ _ _).2 (.inr q))) with k | k
      · omega
      · exact k

def mx (a b : Int) : Int := if b > a then b else a
/-- One span more, the spans in order of their beginnings: out what has been made, last the span ahead. -/
def mstep (out : List (Int × Int)) (last s : Int × Int) : List (Int × Int) :=
  if s.2 ≤ s.1 ∨ s = last then out else
  match out.getLast? with
  | some t => if s.1 ≤ t.2 then out.dropLast ++ [(t.1, mx t.2 s.2)] else out ++ [s]
  | none => out ++ [s]
/-- The span ahead of span i. -/
def lastP (ys : List (Int × Int)) (i : Nat) : Int × Int := if i = 0 then (0, 0) else ys.getD (i - 1) (0, 0)
def mergeTo (ys : List (Int × Int)) : Nat → List (Int × Int)
  | 0 => []
  | i + 1 => mstep (mergeTo ys i) (lastP ys i) (ys.getD i (0, 0))
theorem mstep_len (out : List (Int × Int)) (l s : Int × Int) : (mstep out l s).length ≤ out.length + 1 := by
  unfold mstep
  split
  · omega
  · split
    · rename_i t ht
      split
      · simp
      · simp
    · simp
theorem mergeTo_len (ys : List (Int × Int)) : ∀ i, (mergeTo ys i).length ≤ i
  | 0 => Nat.le_refl _
  | i + 1 => Nat.le_trans (mstep_len _ _ _) (Nat.succ_le_succ (mergeTo_len ys i))

theorem mstep_ok {out : List (Int × Int)} {l s : Int × Int} (h : NF out) (hs : ∀ z ∈ out, z.1 ≤ s.1) (hl : s = l → s.1 < s.2 → ∀ x, s.1 ≤ x → x < s.2 → mem out x) :
    NF (mstep out l s) ∧ (∀ x, mem (mstep out l s) x ↔ mem out x ∨ (s.1 ≤ x ∧ x < s.2)) ∧ ∀ z ∈ mstep out l s, z.1 = s.1 ∨ ∃ y ∈ out, z.1 = y.1 := by
  unfold mstep
  split
  · rename_i hc
    refine ⟨h, fun x => ⟨.inl, fun k => k.elim id fun k => ?_⟩, fun z hz => .inr ⟨z, hz, rfl⟩⟩
    rcases hc with hc | hc
    · omega
    · exact hl hc (by omega) x k.1 k.2
  · rename_i hc
    simp only [not_or, Int.not_le] at hc
    split
    · rename_i t ht
      obtain ⟨o, rfl⟩ := List.getLast?_eq_some_iff.1 ht
      simp only [List.dropLast_concat]
      have hp := List.pairwise_append.1 h.2
      have htt := h.1 t (by simp)
      have hts := hs t (by simp)
      split
      · rename_i hle
        have hmx : t.2 ≤ mx t.2 s.2 ∧ s.2 ≤ mx t.2 s.2 ∧ (mx t.2 s.2 = t.2 ∨ mx t.2 s.2 = s.2) := by unfold mx; split <;> omega
        refine ⟨⟨fun z hz => ?_, List.pairwise_append.2 ⟨hp.1, by simp, fun a ha b hb => ?_⟩⟩, fun x => ?_, fun z hz => ?_⟩
        · rcases List.mem_append.1 hz with hz | hz
          · exact h.1 z (by simp [hz])
          · simp at hz; subst hz; simp only; omega
        · simp at hb; subst hb
          exact hp.2.2 a ha t (by simp)
        · rw [mem_append, mem_append, mem_cons, mem_cons]
          simp only [mem_nil, or_false]
          constructor
          · rintro (k | k)
            · exact .inl (.inl k)
            · by_cases q : x < t.2
              · exact .inl (.inr ⟨k.1, q⟩)
              · refine .inr ⟨by omega, ?_⟩
                rcases hmx.2.2 with e | e <;> omega
          · rintro ((k | k) | k)
            · exact .inl k
            · exact .inr ⟨k.1, by omega⟩
            · exact .inr ⟨by omega, by omega⟩
        · rcases List.mem_append.1 hz with hz | hz
          · exact .inr ⟨z, by simp [hz], rfl⟩
          · simp at hz; subst hz
            exact .inr ⟨t, by simp, rfl⟩
      · rename_i hgt
        refine ⟨⟨fun z hz => ?_, List.pairwise_append.2 ⟨h.2, by simp, fun a ha b hb => ?_⟩⟩, fun x => ?_, fun z hz => ?_⟩
        · rcases List.mem_append.1 hz with hz | hz
          · exact h.1 z hz
          · simp at hz; subst hz; exact hc.1
        · simp at hb; subst hb
          rcases List.mem_append.1 ha with ha | ha
          · have := hp.2.2 a ha t (by simp)
            omega
          · simp at ha; subst ha; omega
        · rw [mem_append, mem_cons]
          simp [mem_nil]
        · rcases List.mem_append.1 hz with hz | hz
          · exact .inr ⟨z, hz, rfl⟩
          · simp at hz; subst hz; exact .inl rfl
    · rename_i ht
      have : out = [] := by simpa using ht
      subst this
      refine ⟨⟨fun z hz => ?_, by simp⟩, fun x => ?_, fun z hz => ?_⟩
      · simp at hz; subst hz; exact hc.1
      · rw [List.nil_append, mem_cons]; simp [mem_nil]
      · simp at hz; subst hz; exact .inl rfl

theorem mergeTo_ok {ys : List (Int × Int)} (hs : ys.Pairwise fun a b => a.1 ≤ b.1) : ∀ i, i ≤ ys.length →
    NF (mergeTo ys i) ∧ (∀ x, mem (mergeTo ys i) x ↔ mem (ys.take i) x) ∧ ∀ z ∈ mergeTo ys i, ∃ y ∈ ys.take i, z.1 = y.1
  | 0, _ => ⟨⟨by simp [mergeTo], by simp [mergeTo]⟩, fun x => by simp [mergeTo], by simp [mergeTo]⟩
  | i + 1, hi => by
    obtain ⟨h1, h2, h3⟩ := mergeTo_ok hs i (by omega)
    have hg : ys.getD i (0, 0) = ys[i] := by simp [List.getD, show i < ys.length by omega]
    have ht : ys.take (i + 1) = ys.take i ++ [ys[i]] := by rw [List.take_add_one]; simp [show i < ys.length by omega]
    have hp := List.pairwise_iff_getElem.1 hs
    obtain ⟨k1, k2, k3⟩ := mstep_ok (out := mergeTo ys i) (l := lastP ys i) (s := ys[i]) h1 (fun z hz => by
      obtain ⟨y, hy, e⟩ := h3 z hz
      obtain ⟨j, hj, rfl⟩ := List.mem_iff_getElem.1 hy
      simp at hj
      rw [e, List.getElem_take]
      exact hp j i (by omega) (by omega) (by omega)) (fun e hne x hx1 hx2 => by
      rw [h2]
      unfold lastP at e
      split at e
      · rw [e] at hne; simp at hne
      · rename_i h0
        refine ⟨ys[i], ?_, hx1, hx2⟩
        rw [e]
        simp only [List.getD, show i - 1 < ys.length by omega, List.getElem?_eq_getElem, Option.getD_some]
        rw [List.mem_iff_getElem]
        exact ⟨i - 1, by simp; omega, by simp⟩)
    rw [mergeTo, hg, ht]
    refine ⟨k1, fun x => ?_, fun z hz => ?_⟩
    · rw [k2, h2, mem_append, mem_cons]; simp [mem_nil]
    · rcases k3 z hz with e | ⟨y, hy, e⟩
      · exact ⟨ys[i], List.mem_append_right _ (List.mem_singleton.2 rfl), e⟩
      · obtain ⟨y', hy', e'⟩ := h3 y hy
        exact ⟨y', List.mem_append_left _ hy', e.trans e'⟩

/-- The normal form of a list of spans. -/
def nf (zs : List (Int × Int)) : List (Int × Int) := mergeTo (zs.mergeSort fun a b => decide (a.1 ≤ b.1)) zs.length
theorem merge_any {zs ys : List (Int × Int)} (hp : ys.Perm zs) (hs : ys.Pairwise fun a b => a.1 ≤ b.1) : NF (mergeTo ys ys.length) ∧ ∀ x, mem (mergeTo ys ys.length) x ↔ mem zs x := by
  obtain ⟨h1, h2, _⟩ := mergeTo_ok hs ys.length (Nat.le_refl _)
  exact ⟨h1, fun x => by rw [h2, List.take_length]; exact mem_perm hp x⟩
theorem nf_ok (zs : List (Int × Int)) : NF (nf zs) ∧ ∀ x, mem (nf zs) x ↔ mem zs x := by
  have hp : (zs.mergeSort fun a b => decide (a.1 ≤ b.1)).Perm zs := List.mergeSort_perm zs _
  have := merge_any hp (by
    have := List.pairwise_mergeSort (le := fun a b : Int × Int => decide (a.1 ≤ b.1)) (fun a b c h1 h2 => by simp at *; omega) (fun a b => by simp; omega) zs
    exact this.imp fun h => by simpa using h)
  rwa [hp.length_eq] at this
theorem merge_nf {zs ys : List (Int × Int)} (hp : ys.Perm zs) (hs : ys.Pairwise fun a b => a.1 ≤ b.1) : mergeTo ys ys.length = nf zs := by
  obtain ⟨h1, h2⟩ := merge_any hp hs
  obtain ⟨k1, k2⟩ := nf_ok zs
  exact h1.unique k1 fun x => (h2 x).trans (k2 x).symm
theorem nf_len (zs : List (Int × Int)) : (nf zs).length ≤ zs.length := mergeTo_len _ _
theorem nf_unique {zs ws : List (Int × Int)} (h : NF ws) (k : ∀ x, mem ws x ↔ mem zs x) : ws = nf zs := by
  obtain ⟨k1, k2⟩ := nf_ok zs
  exact h.unique k1 fun x => (k x).trans (k2 x).symm

/-! ### Sums -/
def sm : Nat → (Nat → Int) → Int
  | 0, _ => 0
  | n + 1, f => sm n f + f n
theorem sm_congr : ∀ {n : Nat} {f g : Nat → Int}, (∀ k, k < n → f k = g k) → sm n f = sm n g
  | 0, _, _, _ => rfl
  | n + 1, f, g, h => by rw [sm, sm, sm_congr fun k hk => h k (by omega), h n (by omega)]
theorem sm_add (n : Nat) (f g : Nat → Int) : sm n (fun k => f k + g k) = sm n f + sm n g := by
  induction n with
  | zero => rfl
  | succ n ih => rw [sm, sm, sm, ih]; omega
theorem sm_zero (n : Nat) : sm n (fun _ => 0) = 0 := by
  induction n with
  | zero => rfl
  | succ n ih => rw [sm, ih]; rfl
theorem sm_mul (n : Nat) (f : Nat → Int) (c : Int) : sm n (fun k => f k * c) = sm n f * c := by
  induction n with
  | zero => simp [sm]
  | succ n ih => rw [sm, sm, ih, Int.add_mul]
theorem sm_le {n : Nat} {f g : Nat → Int} (h : ∀ k, k < n → f k ≤ g k) : sm n f ≤ sm n g := by
  induction n with
  | zero => exact Int.le_refl _
  | succ n ih => rw [sm, sm]; have := ih fun k hk => h k (by omega); have := h n (by omega); omega
theorem sm_const (n : Nat) (c : Int) : sm n (fun _ => c) = n * c := by
  induction n with
  | zero => simp [sm]
  | succ n ih => rw [sm, ih, Int.natCast_succ, Int.add_mul]; omega
/-- 1, where p. -/
def one (p : Prop) [Decidable p] : Int := if p then 1 else 0
/-- How many of 0 .. n - 1 are from a up to b. -/
theorem sm_span (n : Nat) (a b : Int) (h0 : 0 ≤ a) (h1 : a ≤ b) (h2 : b ≤ n) : sm n (fun k => one (a ≤ (k : Int) ∧ (k : Int) < b)) = b - a := by
  have key : ∀ m : Nat, sm m (fun k => one (a ≤ (k : Int) ∧ (k : Int) < b)) = if (m : Int) ≤ a then 0 else if (m : Int) ≤ b then m - a else b - a := by
    intro m
    induction m with
    | zero => rw [if_pos (by omega)]; rfl
    | succ m ih =>
      rw [sm, ih]
      unfold one
      repeat' split
      all_goals omega
  rw [key n]
  repeat' split
  all_goals omega
/-- The sum of the lengths. -/
def tot : List (Int × Int) → Int
  | [] => 0
  | z :: zs => (z.2 - z.1) + tot zs
theorem tot_count {n : Nat} : ∀ {zs : List (Int × Int)}, NF zs → (∀ z ∈ zs, 0 ≤ z.1 ∧ z.2 ≤ n) → tot zs = sm n fun k => one (mem zs k)
  | [], _, _ => by
    rw [tot, sm_congr (g := fun _ => 0) fun k _ => by unfold one; rw [if_neg (mem_nil _)], sm_zero]
  | z :: zs, h, hb => by
    have hz := hb z (by simp)
    rw [tot, tot_count h.tail fun y hy => hb y (by simp [hy]), ← sm_span n z.1 z.2 hz.1 (by have := h.1 z (by simp); omega) hz.2, ← sm_add]
    refine sm_congr fun k _ => ?_
    unfold one
    simp only [mem_cons]
    by_cases q : mem zs k
    · have := h.low q
      rw [if_neg (by omega), if_pos q, if_pos (.inr q)]; rfl
    · simp only [q, or_false, if_false]
      split <;> rfl
theorem nf_bound {zs : List (Int × Int)} {lo hi : Int} (h : ∀ z ∈ zs, lo ≤ z.1 ∧ z.2 ≤ hi) : ∀ z ∈ nf zs, lo ≤ z.1 ∧ z.2 ≤ hi := by
  intro z hz
  obtain ⟨k1, k2⟩ := nf_ok zs
  have := k1.1 z hz
  obtain ⟨y, hy, h1, _⟩ := (k2 z.1).1 ⟨z, hz, by omega, by omega⟩
  obtain ⟨y', hy', _, h2⟩ := (k2 (z.2 - 1)).1 ⟨z, hz, by omega, by omega⟩
  have := h y hy
  have := h y' hy'
  omega
theorem NF.take {zs : List (Int × Int)} (h : NF zs) (i : Nat) : NF (zs.take i) := ⟨fun z hz => h.1 z (List.mem_of_mem_take hz), h.2.sublist (List.take_sublist i zs)⟩
theorem tot_nonneg {zs : List (Int × Int)} (h : NF zs) : 0 ≤ tot zs := by
  induction zs with
  | nil => exact Int.le_refl _
  | cons z zs ih =>
    have := ih h.tail
    have := h.1 z (by simp)
    rw [tot]; omega
theorem sm_one_le (n : Nat) (p : Nat → Prop) [∀ k, Decidable (p k)] : 0 ≤ sm n (fun k => one (p k)) ∧ sm n (fun k => one (p k)) ≤ n := by
  induction n with
  | zero => exact ⟨Int.le_refl _, Int.le_refl _⟩
  | succ n ih =>
    rw [sm]
    have : 0 ≤ one (p n) ∧ one (p n) ≤ 1 := by unfold one; split <;> omega
    omega
theorem tot_le {n : Nat} {zs : List (Int × Int)} (h : NF zs) (hb : ∀ z ∈ zs, 0 ≤ z.1 ∧ z.2 ≤ n) : tot zs ≤ n := by
  rw [tot_count h hb]; exact (sm_one_le n _).2
theorem tot_append (a b : List (Int × Int)) : tot (a ++ b) = tot a + tot b := by
  induction a with
  | nil => simp [tot]
  | cons z a ih => rw [List.cons_append, tot, tot, ih]; omega
end Go.Span
