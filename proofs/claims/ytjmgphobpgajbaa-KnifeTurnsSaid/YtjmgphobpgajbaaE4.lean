/- An abstract machine over plain data, with a proof that it follows the model (4 of 5). No conditions. -/
import Derived.Test.YtjmgphobpgajbaaE3
set_option linter.unusedVariables false
set_option linter.unusedSimpArgs false
namespace Go.Eng
open Go.RowKit
section
variable {P : Program} {n0 : Nat} {s : St}
/-- A nil slice in a variable, as an array without elements. -/
theorem GSt.nilBox (b j : Nat) (T : TypeId) (lay : List LK) {Tb : TypeId} {cs : List A} (hb : s.H[b]? = some (.box Tb cs)) (hj : cs[j]? = some (.c .nil)) :
    GSt n0 s ⟨s.T, s.H.set b (.box Tb (cs.set j (.gr s.H.length))) ++ [.arr T lay []]⟩ := by
  intro w0 G0 G a w hS
  have hal : G.al s.H.length = false := by
    cases e : G.al s.H.length with
    | false => rfl
    | true => exact absurd (hS.hr.lt _ e) (Nat.lt_irrefl _)
  have hLe := G.le_push w0.keeps s.H.length 0 0 lay.length 0 true hal
  have hH := HR.place (hS.hr.widen 1) s.H.length 0 0 lay.length 0 true (.arr T lay []) (by simp) hal (fun h => by cases h) ⟨by simp, by simp, by simp, fun h => by simp at h, fun _ => rfl⟩
  have e : (s.H ++ List.replicate 1 O.dead).set s.H.length (.arr T lay []) = s.H ++ [.arr T lay []] := by
    rw [List.set_append_right _ _ (Nat.le_refl _)]; simp
  rw [e] at hH
  have hbl : b < s.H.length := lt_of_get hb
  have hb' : (s.H ++ [O.arr T lay []])[b]? = some (.box Tb cs) := by rw [List.getElem?_append_left hbl]; exact hb
  obtain ⟨o1, o2, o3, o4, vs, o5, o6, o7⟩ := hH.obj b _ hb'
  have hH2 := hH.update hb' rfl o2 (.box Tb (cs.set j (.gr s.H.length))) rfl (fun _ _ => rfl) rfl rfl rfl ⟨o1, o2, o3, by simpa using o4, vs, o5, by simpa using o6, fun i h1 h2 => by
    have h1' : i < cs.length := by simpa using h1
    refine ⟨?_, (o7 i h1' h2).2⟩
    rw [List.getElem_set]
    split
    · rename_i hij
      subst hij
      have e3 : cs[j] = .c .nil := by rw [List.getElem?_eq_getElem h1'] at hj; exact Option.some.inj hj
      have h3 := (o7 j h1' h2).1
      rw [e3] at h3
      rw [h3.nil]
      exact .grn _ (by simp) (by simp) (by simp)
    · exact (o7 i h1' h2).1⟩
  have e2 : (s.H ++ [O.arr T lay []]).set b (.box Tb (cs.set j (.gr s.H.length))) = s.H.set b (.box Tb (cs.set j (.gr s.H.length))) ++ [.arr T lay []] := by
    rw [List.set_append_left _ _ hbl]
  rw [e2] at hH2
  refine ⟨_, hS.size, fun j h1 h2 => (hS.val j h1 h2).mono hLe, hH2, hS.df, hS.le.trans hLe, hS.al0, fun i hi => ?_, by simp; exact Nat.le_trans hS.n0 (Nat.le_succ _)⟩
  by_cases hi' : i = s.H.length
  · subst hi'; exact .inr hS.n0
  · simp only [Gh.push, if_neg hi'] at hi; exact hS.fr i hi
/-- An array that a variable holds, as data. -/
theorem GSt.datBox (b j id : Nat) {Tb T : TypeId} {cs : List A} {lay : List LK} {xs : List (List C)} (hb : s.H[b]? = some (.box Tb cs)) (hj : cs[j]? = some (.gr id)) (ho : s.H[id]? = some (.arr T lay xs)) :
    GSt n0 s ⟨s.T, (s.H.set id (.frz lay xs)).set b (.box Tb (cs.set j (.c (.sl lay xs))))⟩ := by
  intro w0 G0 G a w hS
  obtain ⟨G', hH, hLe, hal⟩ := hS.hr.freeze ho
  have hne : id ≠ b := fun e => by subst e; rw [hb] at ho; cases ho
  have hb' : (s.H.set id (.frz lay xs))[b]? = some (.box Tb cs) := by rw [List.getElem?_set_ne hne]; exact hb
  have hid' : (s.H.set id (.frz lay xs))[id]? = some (.frz lay xs) := by rw [List.getElem?_set_self (lt_of_get ho)]
  obtain ⟨o1, o2, o3, o4, vs, o5, o6, o7⟩ := hH.obj b _ hb'
  have hH2 := hH.update hb' rfl o2 (.box Tb (cs.set j (.c (.sl lay xs)))) rfl (fun _ _ => rfl) rfl rfl rfl ⟨o1, o2, o3, by simpa using o4, vs, o5, by simpa using o6, fun i h1 h2 => by
    have h1' : i < cs.length := by simpa using h1
    refine ⟨?_, (o7 i h1' h2).2⟩
    rw [List.getElem_set]
    split
    · rename_i hij
      subst hij
      have e3 : cs[j] = .gr id := by rw [List.getElem?_eq_getElem h1'] at hj; exact Option.some.inj hj
      have h3 := (o7 j h1' h2).1
      rw [e3] at h3
      exact gr_data hH hid' h3
    · exact (o7 i h1' h2).1⟩
  exact ⟨_, hS.size, fun j h1 h2 => (hS.val j h1 h2).mono hLe, hH2, hS.df, hS.le.trans hLe, hS.al0, fun i hi => hS.fr i (by rw [← hal]; exact hi), by simp; exact hS.n0⟩
/-- A loop whose first round is walked by itself. -/
theorem LoopW.invq {b : (Exit → St → Prop) → St → Prop} (hb : ∀ R R' s, (∀ e s, R e s → R' e s) → b R s → b R' s) {R : Exit → St → Prop} {s : St} {α : Type} (I : α → St) (ok : α → Prop) (μ : α → Nat) (N : Nat)
    (h0 : b (fun e s' => match e with
      | .normal => ∃ y, ok y ∧ GSt n0 s' (I y) ∧ μ y < N
      | e => R e s') s)
    (h : ∀ x, ok x → b (fun e s' => match e with
      | .normal => ∃ y, ok y ∧ GSt n0 s' (I y) ∧ μ y < μ x
      | e => R e s') (I x)) : LoopW n0 b R s := by
  have key : ∀ n x s, ok x → μ x < n → GSt n0 s (I x) → LoopN n0 b R n s := by
    intro n
    induction n with
    | zero => intro x s _ hn; omega
    | succ n ih =>
      intro x s hx hn hg
      refine ⟨I x, hg, hb _ _ _ (fun e s' hr => ?_) (h x hx)⟩
      cases e with
      | normal =>
        obtain ⟨y, hy, hgy, hlt⟩ := hr
        exact ih y s' hy (by omega) hgy
      | _ => exact hr
  refine ⟨N + 1, s, GSt.refl _ _, hb _ _ _ (fun e s' hr => ?_) h0⟩
  cases e with
  | normal =>
    obtain ⟨y, hy, hgy, hlt⟩ := hr
    exact key N y s' hy hlt hgy
  | _ => exact hr
end
end Go.Eng

/- An abstract machine over plain data, part ZH: plain conditions for loops; a function from its plain condition. -/
namespace Go.Eng
open Go.RowKit

/-- A loop over 1 variables that ends. -/
inductive LoopP1 {α1 : Type} (b : α1 → (α1 → Prop) → Prop) (x1 : α1) : Prop where
  | mk (I : α1 → Prop) (μ : α1 → Nat) (h0 : I x1) (h : ∀ x1, I x1 → b x1 fun y1 => I y1 ∧ μ y1 < μ x1)
inductive LoopP2 {α1 : Type} {α2 : Type} (b : α1 → α2 → (α1 → α2 → Prop) → Prop) (x1 : α1) (x2 : α2) : Prop where
  | mk (I : α1 → α2 → Prop) (μ : α1 → α2 → Nat) (h0 : I x1 x2) (h : ∀ x1 x2, I x1 x2 → b x1 x2 fun y1 y2 => I y1 y2 ∧ μ y1 y2 < μ x1 x2)
inductive LoopP3 {α1 : Type} {α2 : Type} {α3 : Type} (b : α1 → α2 → α3 → (α1 → α2 → α3 → Prop) → Prop) (x1 : α1) (x2 : α2) (x3 : α3) : Prop where
  | mk (I : α1 → α2 → α3 → Prop) (μ : α1 → α2 → α3 → Nat) (h0 : I x1 x2 x3) (h : ∀ x1 x2 x3, I x1 x2 x3 → b x1 x2 x3 fun y1 y2 y3 => I y1 y2 y3 ∧ μ y1 y2 y3 < μ x1 x2 x3)
inductive LoopP4 {α1 : Type} {α2 : Type} {α3 : Type} {α4 : Type} (b : α1 → α2 → α3 → α4 → (α1 → α2 → α3 → α4 → Prop) → Prop) (x1 : α1) (x2 : α2) (x3 : α3) (x4 : α4) : Prop where
  | mk (I : α1 → α2 → α3 → α4 → Prop) (μ : α1 → α2 → α3 → α4 → Nat) (h0 : I x1 x2 x3 x4) (h : ∀ x1 x2 x3 x4, I x1 x2 x3 x4 → b x1 x2 x3 x4 fun y1 y2 y3 y4 => I y1 y2 y3 y4 ∧ μ y1 y2 y3 y4 < μ x1 x2 x3 x4)
inductive LoopP5 {α1 : Type} {α2 : Type} {α3 : Type} {α4 : Type} {α5 : Type} (b : α1 → α2 → α3 → α4 → α5 → (α1 → α2 → α3 → α4 → α5 → Prop) → Prop) (x1 : α1) (x2 : α2) (x3 : α3) (x4 : α4) (x5 : α5) : Prop where
  | mk (I : α1 → α2 → α3 → α4 → α5 → Prop) (μ : α1 → α2 → α3 → α4 → α5 → Nat) (h0 : I x1 x2 x3 x4 x5) (h : ∀ x1 x2 x3 x4 x5, I x1 x2 x3 x4 x5 → b x1 x2 x3 x4 x5 fun y1 y2 y3 y4 y5 => I y1 y2 y3 y4 y5 ∧ μ y1 y2 y3 y4 y5 < μ x1 x2 x3 x4 x5)
inductive LoopP6 {α1 : Type} {α2 : Type} {α3 : Type} {α4 : Type} {α5 : Type} {α6 : Type} (b : α1 → α2 → α3 → α4 → α5 → α6 → (α1 → α2 → α3 → α4 → α5 → α6 → Prop) → Prop) (x1 : α1) (x2 : α2) (x3 : α3) (x4 : α4) (x5 : α5) (x6 : α6) : Prop where
  | mk (I : α1 → α2 → α3 → α4 → α5 → α6 → Prop) (μ : α1 → α2 → α3 → α4 → α5 → α6 → Nat) (h0 : I x1 x2 x3 x4 x5 x6) (h : ∀ x1 x2 x3 x4 x5 x6, I x1 x2 x3 x4 x5 x6 → b x1 x2 x3 x4 x5 x6 fun y1 y2 y3 y4 y5 y6 => I y1 y2 y3 y4 y5 y6 ∧ μ y1 y2 y3 y4 y5 y6 < μ x1 x2 x3 x4 x5 x6)
inductive LoopP7 {α1 : Type} {α2 : Type} {α3 : Type} {α4 : Type} {α5 : Type} {α6 : Type} {α7 : Type} (b : α1 → α2 → α3 → α4 → α5 → α6 → α7 → (α1 → α2 → α3 → α4 → α5 → α6 → α7 → Prop) → Prop) (x1 : α1) (x2 : α2) (x3 : α3) (x4 : α4) (x5 : α5) (x6 : α6) (x7 : α7) : Prop where
  | mk (I : α1 → α2 → α3 → α4 → α5 → α6 → α7 → Prop) (μ : α1 → α2 → α3 → α4 → α5 → α6 → α7 → Nat) (h0 : I x1 x2 x3 x4 x5 x6 x7) (h : ∀ x1 x2 x3 x4 x5 x6 x7, I x1 x2 x3 x4 x5 x6 x7 → b x1 x2 x3 x4 x5 x6 x7 fun y1 y2 y3 y4 y5 y6 y7 => I y1 y2 y3 y4 y5 y6 y7 ∧ μ y1 y2 y3 y4 y5 y6 y7 < μ x1 x2 x3 x4 x5 x6 x7)
inductive LoopP8 {α1 : Type} {α2 : Type} {α3 : Type} {α4 : Type} {α5 : Type} {α6 : Type} {α7 : Type} {α8 : Type} (b : α1 → α2 → α3 → α4 → α5 → α6 → α7 → α8 → (α1 → α2 → α3 → α4 → α5 → α6 → α7 → α8 → Prop) → Prop) (x1 : α1) (x2 : α2) (x3 : α3) (x4 : α4) (x5 : α5) (x6 : α6) (x7 : α7) (x8 : α8) : Prop where
  | mk (I : α1 → α2 → α3 → α4 → α5 → α6 → α7 → α8 → Prop) (μ : α1 → α2 → α3 → α4 → α5 → α6 → α7 → α8 → Nat) (h0 : I x1 x2 x3 x4 x5 x6 x7 x8) (h : ∀ x1 x2 x3 x4 x5 x6 x7 x8, I x1 x2 x3 x4 x5 x6 x7 x8 → b x1 x2 x3 x4 x5 x6 x7 x8 fun y1 y2 y3 y4 y5 y6 y7 y8 => I y1 y2 y3 y4 y5 y6 y7 y8 ∧ μ y1 y2 y3 y4 y5 y6 y7 y8 < μ x1 x2 x3 x4 x5 x6 x7 x8)
inductive LoopP9 {α1 : Type} {α2 : Type} {α3 : Type} {α4 : Type} {α5 : Type} {α6 : Type} {α7 : Type} {α8 : Type} {α9 : Type} (b : α1 → α2 → α3 → α4 → α5 → α6 → α7 → α8 → α9 → (α1 → α2 → α3 → α4 → α5 → α6 → α7 → α8 → α9 → Prop) → Prop) (x1 : α1) (x2 : α2) (x3 : α3) (x4 : α4) (x5 : α5) (x6 : α6) (x7 : α7) (x8 : α8) (x9 : α9) : Prop where
  | mk (I : α1 → α2 → α3 → α4 → α5 → α6 → α7 → α8 → α9 → Prop) (μ : α1 → α2 → α3 → α4 → α5 → α6 → α7 → α8 → α9 → Nat) (h0 : I x1 x2 x3 x4 x5 x6 x7 x8 x9) (h : ∀ x1 x2 x3 x4 x5 x6 x7 x8 x9, I x1 x2 x3 x4 x5 x6 x7 x8 x9 → b x1 x2 x3 x4 x5 x6 x7 x8 x9 fun y1 y2 y3 y4 y5 y6 y7 y8 y9 => I y1 y2 y3 y4 y5 y6 y7 y8 y9 ∧ μ y1 y2 y3 y4 y5 y6 y7 y8 y9 < μ x1 x2 x3 x4 x5 x6 x7 x8 x9)
inductive LoopP10 {α1 : Type} {α2 : Type} {α3 : Type} {α4 : Type} {α5 : Type} {α6 : Type} {α7 : Type} {α8 : Type} {α9 : Type} {α10 : Type} (b : α1 → α2 → α3 → α4 → α5 → α6 → α7 → α8 → α9 → α10 → (α1 → α2 → α3 → α4 → α5 → α6 → α7 → α8 → α9 → α10 → Prop) → Prop) (x1 : α1) (x2 : α2) (x3 : α3) (x4 : α4) (x5 : α5) (x6 : α6) (x7 : α7) (x8 : α8) (x9 : α9) (x10 : α10) : Prop where
  | mk (I : α1 → α2 → α3 → α4 → α5 → α6 → α7 → α8 → α9 → α10 → Prop) (μ : α1 → α2 → α3 → α4 → α5 → α6 → α7 → α8 → α9 → α10 → Nat) (h0 : I x1 x2 x3 x4 x5 x6 x7 x8 x9 x10) (h : ∀ x1 x2 x3 x4 x5 x6 x7 x8 x9 x10, I x1 x2 x3 x4 x5 x6 x7 x8 x9 x10 → b x1 x2 x3 x4 x5 x6 x7 x8 x9 x10 fun y1 y2 y3 y4 y5 y6 y7 y8 y9 y10 => I y1 y2 y3 y4 y5 y6 y7 y8 y9 y10 ∧ μ y1 y2 y3 y4 y5 y6 y7 y8 y9 y10 < μ x1 x2 x3 x4 x5 x6 x7 x8 x9 x10)
/-- The walk of f's code: handed ds, it hands back the cells l. -/
structure WPg (P : Program) (tbl : FuncId → List A → List C) (f : RFn) (rty : List (Bool × List LK)) (l : List C) (ds : List A) : Prop where
  h : f.body.wp P (stdE P tbl) 0 (finP (stdE P tbl) (getL l) rty f.results) ⟨ds ++ List.replicate (f.ntmps - ds.length) .u, []⟩
abbrev PCg (P : Program) (f : FuncId) (S : List A → List C) (rty : List (Bool × List LK)) (ds : List A) : Prop := PureC P f rty ds fun i => (S ds).getD i .nil
theorem PureC_vc {P : Program} {D : Opts} {f : FuncId} {rf : RFn} {rty : List (Bool × List LK)} {ds : List A} {S : List A → List C} {row : List C} {tbl : FuncId → List A → List C} (hm : P.follows .mixedOrders = true) (h : fnR P D f = some rf)
    (hn : ((P.funcs[f]?).map (·.name == "runtime.NumGoroutine")).getD true = false) (hS : S ds = row) (hw : WPg P tbl rf rty row ds) : PCg P f S rty ds := by
  have e : (fun i => (S ds).getD i .nil) = getL row := by rw [hS]; rfl
  show PureC _ _ _ _ (fun i => (S ds).getD i .nil)
  rw [e]
  exact PureC_fn tbl hm h hn hw.h
section
variable {P : Program} {n0 : Nat} {s : St}
/-- A nil slice, as a slice without elements. -/
theorem GSt.nilSl (t : Nat) (lay : List LK) (ht : s.T[t]? = some (.c .nil)) : GSt n0 s ⟨s.T.set t (.c (.sl lay [])), s.H⟩ := by
  intro w0 G0 G a w hS
  refine ⟨G, by simpa using hS.size, fun j h1 h2 => ?_, hS.hr, hS.df, hS.le, hS.al0, hS.fr, hS.n0⟩
  have h1' : j < s.T.length := by simpa using h1
  have hv := hS.val j h1' h2
  by_cases hj : t = j
  · subst hj
    have e : s.T[t] = .c .nil := by rw [List.getElem?_eq_getElem h1'] at ht; exact Option.some.inj ht
    rw [e] at hv
    simp only [List.getElem_set_self]
    rw [hv.nil]
    exact .c (.sl lay [] none 0 0 0 (fun _ _ => .bool false) (by simp) (fun h => absurd rfl h) (fun i j h => by simp at h) (fun i j h => by simp at h))
  · simpa [List.getElem_set_ne hj] using hv
/-- All of an array, as a part of it. -/
theorem GSt.grOwn (t : Nat) {id : Nat} {T : TypeId} {lay : List LK} {xs : List (List C)} (ht : s.T[t]? = some (.gr id)) (ho : s.H[id]? = some (.arr T lay xs)) : GSt n0 s ⟨s.T.set t (.own id 0 xs.length), s.H⟩ := by
  intro w0 G0 G a w hS
  refine ⟨G, by simpa using hS.size, fun j h1 h2 => ?_, hS.hr, hS.df, hS.le, hS.al0, hS.fr, hS.n0⟩
  have h1' : j < s.T.length := by simpa using h1
  have hv := hS.val j h1' h2
  by_cases hj : t = j
  · subst hj
    have e : s.T[t] = .gr id := by rw [List.getElem?_eq_getElem h1'] at ht; exact Option.some.inj ht
    rw [e] at hv
    simp only [List.getElem_set_self]
    exact hv.gr_own (hS.hr.obj id _ ho).2.1
  · simpa [List.getElem_set_ne hj] using hv
/-- A nil slice, as no part of an array without elements. -/
theorem GSt.nilOwn (t : Nat) (T : TypeId) (lay : List LK) (ht : s.T[t]? = some (.c .nil)) : GSt n0 s ⟨s.T.set t (.own s.H.length 0 0), s.H ++ [.arr T lay []]⟩ := by
  have hlt : t < s.T.length := by
    by_cases h : t < s.T.length
    · exact h
    · rw [List.getElem?_eq_none (by omega)] at ht; cases ht
  have h1 := GSt.nil (n0 := n0) t T lay ht
  have h2 := GSt.grOwn (n0 := n0) (s := ⟨s.T.set t (.gr s.H.length), s.H ++ [.arr T lay []]⟩) t (id := s.H.length) (T := T) (lay := lay) (xs := []) (by simp [hlt]) (by simp)
  simp only [List.set_set] at h2
  exact h1.trans h2
end
/-! ### Loops, by ghost states -/
theorem least (p : Nat → Prop) : ∃ n, (∃ k, p k) → p n ∧ ∀ k, p k → n ≤ k := by
  by_cases h : ∃ k, p k
  · obtain ⟨k, hk⟩ := h
    have key : ∀ k, p k → ∃ n, p n ∧ ∀ k, p k → n ≤ k := by
      intro k
      induction k using Nat.strongRecOn with
      | ind k ih =>
        intro hk
        by_cases q : ∃ j, j < k ∧ p j
        · obtain ⟨j, h1, h2⟩ := q; exact ih j h1 h2
        · exact ⟨k, hk, fun j hj => Nat.le_of_not_lt fun h => q ⟨j, h, hj⟩⟩
    obtain ⟨n, hn⟩ := key k hk
    exact ⟨n, fun _ => hn⟩
  · exact ⟨0, fun k => absurd k h⟩

theorem LoopP1.run {α1 : Type} {b : α1 → (α1 → Prop) → Prop} {x1 : α1} {γ : Type} (f1 : γ → α1) (J : γ → Prop) (μ : γ → Nat) (g0 : γ) (h0 : J g0) (e1 : x1 = f1 g0)
    (h : ∀ g, J g → ∀ K : α1 → Prop, (∀ y1 g', J g' → μ g' < μ g → y1 = f1 g' → K y1) → b (f1 g) K) : LoopP1 b x1 := by
  obtain ⟨m, hm⟩ := Classical.axiomOfChoice fun y : α1 => least fun k => ∃ g, J g ∧ μ g = k ∧ y = f1 g
  refine .mk (fun y1 => ∃ g, J g ∧ y1 = f1 g) (fun y1 => m y1) ⟨g0, h0, e1⟩ ?_
  rintro y1 ⟨g1, k1, rfl⟩
  obtain ⟨⟨g, k2, k3, q1⟩, k5⟩ := hm (f1 g1) ⟨_, g1, k1, rfl, rfl⟩
  rw [q1]
  refine h g k2 _ fun z1 g' k6 k7 w1 => ⟨⟨g', k6, w1⟩, ?_⟩
  have := (hm z1 ⟨_, g', k6, rfl, w1⟩).2 _ ⟨g', k6, rfl, w1⟩
  rw [← q1, ← k3]
  exact Nat.lt_of_le_of_lt this k7

theorem LoopP2.run {α1 : Type} {α2 : Type} {b : α1 → α2 → (α1 → α2 → Prop) → Prop} {x1 : α1} {x2 : α2} {γ : Type} (f1 : γ → α1) (f2 : γ → α2) (J : γ → Prop) (μ : γ → Nat) (g0 : γ) (h0 : J g0) (e1 : x1 = f1 g0) (e2 : x2 = f2 g0)
    (h : ∀ g, J g → ∀ K : α1 → α2 → Prop, (∀ y1 y2 g', J g' → μ g' < μ g → y1 = f1 g' → y2 = f2 g' → K y1 y2) → b (f1 g) (f2 g) K) : LoopP2 b x1 x2 := by
  obtain ⟨m, hm⟩ := Classical.axiomOfChoice fun y : α1 × α2 => least fun k => ∃ g, J g ∧ μ g = k ∧ y.1 = f1 g ∧ y.2 = f2 g
  refine .mk (fun y1 y2 => ∃ g, J g ∧ y1 = f1 g ∧ y2 = f2 g) (fun y1 y2 => m (y1, y2)) ⟨g0, h0, e1, e2⟩ ?_
  rintro y1 y2 ⟨g1, k1, rfl, rfl⟩
  obtain ⟨⟨g, k2, k3, q1, q2⟩, k5⟩ := hm (f1 g1, f2 g1) ⟨_, g1, k1, rfl, rfl, rfl⟩
  dsimp only at q1 q2
  rw [q1, q2]
  refine h g k2 _ fun z1 z2 g' k6 k7 w1 w2 => ⟨⟨g', k6, w1, w2⟩, ?_⟩
  have := (hm (z1, z2) ⟨_, g', k6, rfl, w1, w2⟩).2 _ ⟨g', k6, rfl, w1, w2⟩
  rw [← q1, ← q2, ← k3]
  exact Nat.lt_of_le_of_lt this k7

theorem LoopP3.run {α1 : Type} {α2 : Type} {α3 : Type} {b : α1 → α2 → α3 → (α1 → α2 → α3 → Prop) → Prop} {x1 : α1} {x2 : α2} {x3 : α3} {γ : Type} (f1 : γ → α1) (f2 : γ → α2) (f3 : γ → α3) (J : γ → Prop) (μ : γ → Nat) (g0 : γ) (h0 : J g0) (e1 : x1 = f1 g0) (e2 : x2 = f2 g0) (e3 : x3 = f3 g0)
    (h : ∀ g, J g → ∀ K : α1 → α2 → α3 → Prop, (∀ y1 y2 y3 g', J g' → μ g' < μ g → y1 = f1 g' → y2 = f2 g' → y3 = f3 g' → K y1 y2 y3) → b (f1 g) (f2 g) (f3 g) K) : LoopP3 b x1 x2 x3 := by
  obtain ⟨m, hm⟩ := Classical.axiomOfChoice fun y : α1 × α2 × α3 => least fun k => ∃ g, J g ∧ μ g = k ∧ y.1 = f1 g ∧ y.2.1 = f2 g ∧ y.2.2 = f3 g
  refine .mk (fun y1 y2 y3 => ∃ g, J g ∧ y1 = f1 g ∧ y2 = f2 g ∧ y3 = f3 g) (fun y1 y2 y3 => m (y1, y2, y3)) ⟨g0, h0, e1, e2, e3⟩ ?_
  rintro y1 y2 y3 ⟨g1, k1, rfl, rfl, rfl⟩
  obtain ⟨⟨g, k2, k3, q1, q2, q3⟩, k5⟩ := hm (f1 g1, f2 g1, f3 g1) ⟨_, g1, k1, rfl, rfl, rfl, rfl⟩
  dsimp only at q1 q2 q3
  rw [q1, q2, q3]
  refine h g k2 _ fun z1 z2 z3 g' k6 k7 w1 w2 w3 => ⟨⟨g', k6, w1, w2, w3⟩, ?_⟩
  have := (hm (z1, z2, z3) ⟨_, g', k6, rfl, w1, w2, w3⟩).2 _ ⟨g', k6, rfl, w1, w2, w3⟩
  rw [← q1, ← q2, ← q3, ← k3]
  exact Nat.lt_of_le_of_lt this k7

theorem LoopP4.run {α1 : Type} {α2 : Type} {α3 : Type} {α4 : Type} {b : α1 → α2 → α3 → α4 → (α1 → α2 → α3 → α4 → Prop) → Prop} {x1 : α1} {x2 : α2} {x3 : α3} {x4 : α4} {γ : Type} (f1 : γ → α1) (f2 : γ → α2) (f3 : γ → α3) (f4 : γ → α4) (J : γ → Prop) (μ : γ → Nat) (g0 : γ) (h0 : J g0) (e1 : x1 = f1 g0) (e2 : x2 = f2 g0) (e3 : x3 = f3 g0) (e4 : x4 = f4 g0)
    (h : ∀ g, J g → ∀ K : α1 → α2 → α3 → α4 → Prop, (∀ y1 y2 y3 y4 g', J g' → μ g' < μ g → y1 = f1 g' → y2 = f2 g' → y3 = f3 g' → y4 = f4 g' → K y1 y2 y3 y4) → b (f1 g) (f2 g) (f3 g) (f4 g) K) : LoopP4 b x1 x2 x3 x4 := by
  obtain ⟨m, hm⟩ := Classical.axiomOfChoice fun y : α1 × α2 × α3 × α4 => least fun k => ∃ g, J g ∧ μ g = k ∧ y.1 = f1 g ∧ y.2.1 = f2 g ∧ y.2.2.1 = f3 g ∧ y.2.2.2 = f4 g
  refine .mk (fun y1 y2 y3 y4 => ∃ g, J g ∧ y1 = f1 g ∧ y2 = f2 g ∧ y3 = f3 g ∧ y4 = f4 g) (fun y1 y2 y3 y4 => m (y1, y2, y3, y4)) ⟨g0, h0, e1, e2, e3, e4⟩ ?_
  rintro y1 y2 y3 y4 ⟨g1, k1, rfl, rfl, rfl, rfl⟩
  obtain ⟨⟨g, k2, k3, q1, q2, q3, q4⟩, k5⟩ := hm (f1 g1, f2 g1, f3 g1, f4 g1) ⟨_, g1, k1, rfl, rfl, rfl, rfl, rfl⟩
  dsimp only at q1 q2 q3 q4
  rw [q1, q2, q3, q4]
  refine h g k2 _ fun z1 z2 z3 z4 g' k6 k7 w1 w2 w3 w4 => ⟨⟨g', k6, w1, w2, w3, w4⟩, ?_⟩
  have := (hm (z1, z2, z3, z4) ⟨_, g', k6, rfl, w1, w2, w3, w4⟩).2 _ ⟨g', k6, rfl, w1, w2, w3, w4⟩
  rw [← q1, ← q2, ← q3, ← q4, ← k3]
  exact Nat.lt_of_le_of_lt this k7

theorem LoopP5.run {α1 : Type} {α2 : Type} {α3 : Type} {α4 : Type} {α5 : Type} {b : α1 → α2 → α3 → α4 → α5 → (α1 → α2 → α3 → α4 → α5 → Prop) → Prop} {x1 : α1} {x2 : α2} {x3 : α3} {x4 : α4} {x5 : α5} {γ : Type} (f1 : γ → α1) (f2 : γ → α2) (f3 : γ → α3) (f4 : γ → α4) (f5 : γ → α5) (J : γ → Prop) (μ : γ → Nat) (g0 : γ) (h0 : J g0) (e1 : x1 = f1 g0) (e2 : x2 = f2 g0) (e3 : x3 = f3 g0) (e4 : x4 = f4 g0) (e5 : x5 = f5 g0)
    (h : ∀ g, J g → ∀ K : α1 → α2 → α3 → α4 → α5 → Prop, (∀ y1 y2 y3 y4 y5 g', J g' → μ g' < μ g → y1 = f1 g' → y2 = f2 g' → y3 = f3 g' → y4 = f4 g' → y5 = f5 g' → K y1 y2 y3 y4 y5) → b (f1 g) (f2 g) (f3 g) (f4 g) (f5 g) K) : LoopP5 b x1 x2 x3 x4 x5 := by
  obtain ⟨m, hm⟩ := Classical.axiomOfChoice fun y : α1 × α2 × α3 × α4 × α5 => least fun k => ∃ g, J g ∧ μ g = k ∧ y.1 = f1 g ∧ y.2.1 = f2 g ∧ y.2.2.1 = f3 g ∧ y.2.2.2.1 = f4 g ∧ y.2.2.2.2 = f5 g
  refine .mk (fun y1 y2 y3 y4 y5 => ∃ g, J g ∧ y1 = f1 g ∧ y2 = f2 g ∧ y3 = f3 g ∧ y4 = f4 g ∧ y5 = f5 g) (fun y1 y2 y3 y4 y5 => m (y1, y2, y3, y4, y5)) ⟨g0, h0, e1, e2, e3, e4, e5⟩ ?_
  rintro y1 y2 y3 y4 y5 ⟨g1, k1, rfl, rfl, rfl, rfl, rfl⟩
  obtain ⟨⟨g, k2, k3, q1, q2, q3, q4, q5⟩, k5⟩ := hm (f1 g1, f2 g1, f3 g1, f4 g1, f5 g1) ⟨_, g1, k1, rfl, rfl, rfl, rfl, rfl, rfl⟩
  dsimp only at q1 q2 q3 q4 q5
  rw [q1, q2, q3, q4, q5]
  refine h g k2 _ fun z1 z2 z3 z4 z5 g' k6 k7 w1 w2 w3 w4 w5 => ⟨⟨g', k6, w1, w2, w3, w4, w5⟩, ?_⟩
  have := (hm (z1, z2, z3, z4, z5) ⟨_, g', k6, rfl, w1, w2, w3, w4, w5⟩).2 _ ⟨g', k6, rfl, w1, w2, w3, w4, w5⟩
  rw [← q1, ← q2, ← q3, ← q4, ← q5, ← k3]
  exact Nat.lt_of_le_of_lt this k7

theorem LoopP6.run {α1 : Type} {α2 : Type} {α3 : Type} {α4 : Type} {α5 : Type} {α6 : Type} {b : α1 → α2 → α3 → α4 → α5 → α6 → (α1 → α2 → α3 → α4 → α5 → α6 → Prop) → Prop} {x1 : α1} {x2 : α2} {x3 : α3} {x4 : α4} {x5 : α5} {x6 : α6} {γ : Type} (f1 : γ → α1) (f2 : γ → α2) (f3 : γ → α3) (f4 : γ → α4) (f5 : γ → α5) (f6 : γ → α6) (J : γ → Prop) (μ : γ → Nat) (g0 : γ) (h0 : J g0) (e1 : x1 = f1 g0) (e2 : x2 = f2 g0) (e3 : x3 = f3 g0) (e4 : x4 = f4 g0) (e5 : x5 = f5 g0) (e6 : x6 = f6 g0)
    (h : ∀ g, J g → ∀ K : α1 → α2 → α3 → α4 → α5 → α6 → Prop, (∀ y1 y2 y3 y4 y5 y6 g', J g' → μ g' < μ g → y1 = f1 g' → y2 = f2 g' → y3 = f3 g' → y4 = f4 g' → y5 = f5 g' → y6 = f6 g' → K y1 y2 y3 y4 y5 y6) → b (f1 g) (f2 g) (f3 g) (f4 g) (f5 g) (f6 g) K) : LoopP6 b x1 x2 x3 x4 x5 x6 := by
  obtain ⟨m, hm⟩ := Classical.axiomOfChoice fun y : α1 × α2 × α3 × α4 × α5 × α6 => least fun k => ∃ g, J g ∧ μ g = k ∧ y.1 = f1 g ∧ y.2.1 = f2 g ∧ y.2.2.1 = f3 g ∧ y.2.2.2.1 = f4 g ∧ y.2.2.2.2.1 = f5 g ∧ y.2.2.2.2.2 = f6 g
  refine .mk (fun y1 y2 y3 y4 y5 y6 => ∃ g, J g ∧ y1 = f1 g ∧ y2 = f2 g ∧ y3 = f3 g ∧ y4 = f4 g ∧ y5 = f5 g ∧ y6 = f6 g) (fun y1 y2 y3 y4 y5 y6 => m (y1, y2, y3, y4, y5, y6)) ⟨g0, h0, e1, e2, e3, e4, e5, e6⟩ ?_
  rintro y1 y2 y3 y4 y5 y6 ⟨g1, k1, rfl, rfl, rfl, rfl, rfl, rfl⟩
  obtain ⟨⟨g, k2, k3, q1, q2, q3, q4, q5, q6⟩, k5⟩ := hm (f1 g1, f2 g1, f3 g1, f4 g1, f5 g1, f6 g1) ⟨_, g1, k1, rfl, rfl, rfl, rfl, rfl, rfl, rfl⟩
  dsimp only at q1 q2 q3 q4 q5 q6
  rw [q1, q2, q3, q4, q5, q6]
  refine h g k2 _ fun z1 z2 z3 z4 z5 z6 g' k6 k7 w1 w2 w3 w4 w5 w6 => ⟨⟨g', k6, w1, w2, w3, w4, w5, w6⟩, ?_⟩
  have := (hm (z1, z2, z3, z4, z5, z6) ⟨_, g', k6, rfl, w1, w2, w3, w4, w5, w6⟩).2 _ ⟨g', k6, rfl, w1, w2, w3, w4, w5, w6⟩
  rw [← q1, ← q2, ← q3, ← q4, ← q5, ← q6, ← k3]
  exact Nat.lt_of_le_of_lt this k7

theorem LoopP7.run {α1 : Type} {α2 : Type} {α3 : Type} {α4 : Type} {α5 : Type} {α6 : Type} {α7 : Type} {b : α1 → α2 → α3 → α4 → α5 → α6 → α7 → (α1 → α2 → α3 → α4 → α5 → α6 → α7 → Prop) → Prop} {x1 : α1} {x2 : α2} {x3 : α3} {x4 : α4} {x5 : α5} {x6 : α6} {x7 : α7} {γ : Type} (f1 : γ → α1) (f2 : γ → α2) (f3 : γ → α3) (f4 : γ → α4) (f5 : γ → α5) (f6 : γ → α6) (f7 : γ → α7) (J : γ → Prop) (μ : γ → Nat) (g0 : γ) (h0 : J g0) (e1 : x1 = f1 g0) (e2 : x2 = f2 g0) (e3 : x3 = f3 g0) (e4 : x4 = f4 g0) (e5 : x5 = f5 g0) (e6 : x6 = f6 g0) (e7 : x7 = f7 g0)
    (h : ∀ g, J g → ∀ K : α1 → α2 → α3 → α4 → α5 → α6 → α7 → Prop, (∀ y1 y2 y3 y4 y5 y6 y7 g', J g' → μ g' < μ g → y1 = f1 g' → y2 = f2 g' → y3 = f3 g' → y4 = f4 g' → y5 = f5 g' → y6 = f6 g' → y7 = f7 g' → K y1 y2 y3 y4 y5 y6 y7) → b (f1 g) (f2 g) (f3 g) (f4 g) (f5 g) (f6 g) (f7 g) K) : LoopP7 b x1 x2 x3 x4 x5 x6 x7 := by
  obtain ⟨m, hm⟩ := Classical.axiomOfChoice fun y : α1 × α2 × α3 × α4 × α5 × α6 × α7 => least fun k => ∃ g, J g ∧ μ g = k ∧ y.1 = f1 g ∧ y.2.1 = f2 g ∧ y.2.2.1 = f3 g ∧ y.2.2.2.1 = f4 g ∧ y.2.2.2.2.1 = f5 g ∧ y.2.2.2.2.2.1 = f6 g ∧ y.2.2.2.2.2.2 = f7 g
  refine .mk (fun y1 y2 y3 y4 y5 y6 y7 => ∃ g, J g ∧ y1 = f1 g ∧ y2 = f2 g ∧ y3 = f3 g ∧ y4 = f4 g ∧ y5 = f5 g ∧ y6 = f6 g ∧ y7 = f7 g) (fun y1 y2 y3 y4 y5 y6 y7 => m (y1, y2, y3, y4, y5, y6, y7)) ⟨g0, h0, e1, e2, e3, e4, e5, e6, e7⟩ ?_
  rintro y1 y2 y3 y4 y5 y6 y7 ⟨g1, k1, rfl, rfl, rfl, rfl, rfl, rfl, rfl⟩
  obtain ⟨⟨g, k2, k3, q1, q2, q3, q4, q5, q6, q7⟩, k5⟩ := hm (f1 g1, f2 g1, f3 g1, f4 g1, f5 g1, f6 g1, f7 g1) ⟨_, g1, k1, rfl, rfl, rfl, rfl, rfl, rfl, rfl, rfl⟩
  dsimp only at q1 q2 q3 q4 q5 q6 q7
  rw [q1, q2, q3, q4, q5, q6, q7]
  refine h g k2 _ fun z1 z2 z3 z4 z5 z6 z7 g' k6 k7 w1 w2 w3 w4 w5 w6 w7 => ⟨⟨g', k6, w1, w2, w3, w4, w5, w6, w7⟩, ?_⟩
  have := (hm (z1, z2, z3, z4, z5, z6, z7) ⟨_, g', k6, rfl, w1, w2, w3, w4, w5, w6, w7⟩).2 _ ⟨g', k6, rfl, w1, w2, w3, w4, w5, w6, w7⟩
  rw [← q1, ← q2, ← q3, ← q4, ← q5, ← q6, ← q7, ← k3]
  exact Nat.lt_of_le_of_lt this k7

theorem LoopP8.run {α1 : Type} {α2 : Type} {α3 : Type} {α4 : Type} {α5 : Type} {α6 : Type} {α7 : Type} {α8 : Type} {b : α1 → α2 → α3 → α4 → α5 → α6 → α7 → α8 → (α1 → α2 → α3 → α4 → α5 → α6 → α7 → α8 → Prop) → Prop} {x1 : α1} {x2 : α2} {x3 : α3} {x4 : α4} {x5 : α5} {x6 : α6} {x7 : α7} {x8 : α8} {γ : Type} (f1 : γ → α1) (f2 : γ → α2) (f3 : γ → α3) (f4 : γ → α4) (f5 : γ → α5) (f6 : γ → α6) (f7 : γ → α7) (f8 : γ → α8) (J : γ → Prop) (μ : γ → Nat) (g0 : γ) (h0 : J g0) (e1 : x1 = f1 g0) (e2 : x2 = f2 g0) (e3 : x3 = f3 g0) (e4 : x4 = f4 g0) (e5 : x5 = f5 g0) (e6 : x6 = f6 g0) (e7 : x7 = f7 g0) (e8 : x8 = f8 g0)
    (h : ∀ g, J g → ∀ K : α1 → α2 → α3 → α4 → α5 → α6 → α7 → α8 → Prop, (∀ y1 y2 y3 y4 y5 y6 y7 y8 g', J g' → μ g' < μ g → y1 = f1 g' → y2 = f2 g' → y3 = f3 g' → y4 = f4 g' → y5 = f5 g' → y6 = f6 g' → y7 = f7 g' → y8 = f8 g' → K y1 y2 y3 y4 y5 y6 y7 y8) → b (f1 g) (f2 g) (f3 g) (f4 g) (f5 g) (f6 g) (f7 g) (f8 g) K) : LoopP8 b x1 x2 x3 x4 x5 x6 x7 x8 := by
  obtain ⟨m, hm⟩ := Classical.axiomOfChoice fun y : α1 × α2 × α3 × α4 × α5 × α6 × α7 × α8 => least fun k => ∃ g, J g ∧ μ g = k ∧ y.1 = f1 g ∧ y.2.1 = f2 g ∧ y.2.2.1 = f3 g ∧ y.2.2.2.1 = f4 g ∧ y.2.2.2.2.1 = f5 g ∧ y.2.2.2.2.2.1 = f6 g ∧ y.2.2.2.2.2.2.1 = f7 g ∧ y.2.2.2.2.2.2.2 = f8 g
  refine .mk (fun y1 y2 y3 y4 y5 y6 y7 y8 => ∃ g, J g ∧ y1 = f1 g ∧ y2 = f2 g ∧ y3 = f3 g ∧ y4 = f4 g ∧ y5 = f5 g ∧ y6 = f6 g ∧ y7 = f7 g ∧ y8 = f8 g) (fun y1 y2 y3 y4 y5 y6 y7 y8 => m (y1, y2, y3, y4, y5, y6, y7, y8)) ⟨g0, h0, e1, e2, e3, e4, e5, e6, e7, e8⟩ ?_
  rintro y1 y2 y3 y4 y5 y6 y7 y8 ⟨g1, k1, rfl, rfl, rfl, rfl, rfl, rfl, rfl, rfl⟩
  obtain ⟨⟨g, k2, k3, q1, q2, q3, q4, q5, q6, q7, q8⟩, k5⟩ := hm (f1 g1, f2 g1, f3 g1, f4 g1, f5 g1, f6 g1, f7 g1, f8 g1) ⟨_, g1, k1, rfl, rfl, rfl, rfl, rfl, rfl, rfl, rfl, rfl⟩
  dsimp only at q1 q2 q3 q4 q5 q6 q7 q8
  rw [q1, q2, q3, q4, q5, q6, q7, q8]
  refine h g k2 _ fun z1 z2 z3 z4 z5 z6 z7 z8 g' k6 k7 w1 w2 w3 w4 w5 w6 w7 w8 => ⟨⟨g', k6, w1, w2, w3, w4, w5, w6, w7, w8⟩, ?_⟩
  have := (hm (z1, z2, z3, z4, z5, z6, z7, z8) ⟨_, g', k6, rfl, w1, w2, w3, w4, w5, w6, w7, w8⟩).2 _ ⟨g', k6, rfl, w1, w2, w3, w4, w5, w6, w7, w8⟩
  rw [← q1, ← q2, ← q3, ← q4, ← q5, ← q6, ← q7, ← q8, ← k3]
  exact Nat.lt_of_le_of_lt this k7
/-! ### Loops whose first round is walked by itself -/
inductive LoopQ1 {α1 : Type} (a : (α1 → Prop) → Prop) (b : α1 → (α1 → Prop) → Prop) : Prop where
  | mk (I : α1 → Prop) (μ : α1 → Nat) (N : Nat) (h0 : a fun y1 => I y1 ∧ μ y1 < N) (h : ∀ y1, I y1 → b y1 fun z1 => I z1 ∧ μ z1 < μ y1) : LoopQ1 a b
theorem LoopQ1.run {α1 : Type} {a : (α1 → Prop) → Prop} {b : α1 → (α1 → Prop) → Prop} {γ : Type} (f1 : γ → α1) (J : γ → Prop) (μ : γ → Nat) (N : Nat)
    (h0 : ∀ K : α1 → Prop, (∀ y1 g', J g' → μ g' < N → y1 = f1 g' → K y1) → a K)
    (h : ∀ g, J g → ∀ K : α1 → Prop, (∀ y1 g', J g' → μ g' < μ g → y1 = f1 g' → K y1) → b (f1 g) K) : LoopQ1 a b := by
  obtain ⟨m, hm⟩ := Classical.axiomOfChoice fun y : α1 => least fun k => ∃ g, J g ∧ μ g = k ∧ y = f1 g
  refine .mk (fun y1 => ∃ g, J g ∧ y1 = f1 g) (fun y1 => m y1) N ?_ ?_
  · refine h0 _ fun z1 g' k6 k7 w1 => ⟨⟨g', k6, w1⟩, ?_⟩
    have := (hm z1 ⟨_, g', k6, rfl, w1⟩).2 _ ⟨g', k6, rfl, w1⟩
    exact Nat.lt_of_le_of_lt this k7
  · rintro y1 ⟨g1, k1, rfl⟩
    obtain ⟨⟨g, k2, k3, q1⟩, k5⟩ := hm (f1 g1) ⟨_, g1, k1, rfl, rfl⟩
    rw [q1]
    refine h g k2 _ fun z1 g' k6 k7 w1 => ⟨⟨g', k6, w1⟩, ?_⟩
    have := (hm z1 ⟨_, g', k6, rfl, w1⟩).2 _ ⟨g', k6, rfl, w1⟩
    rw [← q1, ← k3]
    exact Nat.lt_of_le_of_lt this k7
inductive LoopQ2 {α1 : Type} {α2 : Type} (a : (α1 → α2 → Prop) → Prop) (b : α1 → α2 → (α1 → α2 → Prop) → Prop) : Prop where
  | mk (I : α1 → α2 → Prop) (μ : α1 → α2 → Nat) (N : Nat) (h0 : a fun y1 y2 => I y1 y2 ∧ μ y1 y2 < N) (h : ∀ y1 y2, I y1 y2 → b y1 y2 fun z1 z2 => I z1 z2 ∧ μ z1 z2 < μ y1 y2) : LoopQ2 a b
theorem LoopQ2.run {α1 : Type} {α2 : Type} {a : (α1 → α2 → Prop) → Prop} {b : α1 → α2 → (α1 → α2 → Prop) → Prop} {γ : Type} (f1 : γ → α1) (f2 : γ → α2) (J : γ → Prop) (μ : γ → Nat) (N : Nat)
    (h0 : ∀ K : α1 → α2 → Prop, (∀ y1 y2 g', J g' → μ g' < N → y1 = f1 g' → y2 = f2 g' → K y1 y2) → a K)
    (h : ∀ g, J g → ∀ K : α1 → α2 → Prop, (∀ y1 y2 g', J g' → μ g' < μ g → y1 = f1 g' → y2 = f2 g' → K y1 y2) → b (f1 g) (f2 g) K) : LoopQ2 a b := by
  obtain ⟨m, hm⟩ := Classical.axiomOfChoice fun y : α1 × α2 => least fun k => ∃ g, J g ∧ μ g = k ∧ y.1 = f1 g ∧ y.2 = f2 g
  refine .mk (fun y1 y2 => ∃ g, J g ∧ y1 = f1 g ∧ y2 = f2 g) (fun y1 y2 => m (y1, y2)) N ?_ ?_
  · refine h0 _ fun z1 z2 g' k6 k7 w1 w2 => ⟨⟨g', k6, w1, w2⟩, ?_⟩
    have := (hm (z1, z2) ⟨_, g', k6, rfl, w1, w2⟩).2 _ ⟨g', k6, rfl, w1, w2⟩
    exact Nat.lt_of_le_of_lt this k7
  · rintro y1 y2 ⟨g1, k1, rfl, rfl⟩
    obtain ⟨⟨g, k2, k3, q1, q2⟩, k5⟩ := hm (f1 g1, f2 g1) ⟨_, g1, k1, rfl, rfl, rfl⟩
    dsimp only at q1 q2
    rw [q1, q2]
    refine h g k2 _ fun z1 z2 g' k6 k7 w1 w2 => ⟨⟨g', k6, w1, w2⟩, ?_⟩
    have := (hm (z1, z2) ⟨_, g', k6, rfl, w1, w2⟩).2 _ ⟨g', k6, rfl, w1, w2⟩
    rw [← q1, ← q2, ← k3]
    exact Nat.lt_of_le_of_lt this k7
inductive LoopQ3 {α1 : Type} {α2 : Type} {α3 : Type} (a : (α1 → α2 → α3 → Prop) → Prop) (b : α1 → α2 → α3 → (α1 → α2 → α3 → Prop) → Prop) : Prop where
  | mk (I : α1 → α2 → α3 → Prop) (μ : α1 → α2 → α3 → Nat) (N : Nat) (h0 : a fun y1 y2 y3 => I y1 y2 y3 ∧ μ y1 y2 y3 < N) (h : ∀ y1 y2 y3, I y1 y2 y3 → b y1 y2 y3 fun z1 z2 z3 => I z1 z2 z3 ∧ μ z1 z2 z3 < μ y1 y2 y3) : LoopQ3 a b
theorem LoopQ3.run {α1 : Type} {α2 : Type} {α3 : Type} {a : (α1 → α2 → α3 → Prop) → Prop} {b : α1 → α2 → α3 → (α1 → α2 → α3 → Prop) → Prop} {γ : Type} (f1 : γ → α1) (f2 : γ → α2) (f3 : γ → α3) (J : γ → Prop) (μ : γ → Nat) (N : Nat)
    (h0 : ∀ K : α1 → α2 → α3 → Prop, (∀ y1 y2 y3 g', J g' → μ g' < N → y1 = f1 g' → y2 = f2 g' → y3 = f3 g' → K y1 y2 y3) → a K)
    (h : ∀ g, J g → ∀ K : α1 → α2 → α3 → Prop, (∀ y1 y2 y3 g', J g' → μ g' < μ g → y1 = f1 g' → y2 = f2 g' → y3 = f3 g' → K y1 y2 y3) → b (f1 g) (f2 g) (f3 g) K) : LoopQ3 a b := by
  obtain ⟨m, hm⟩ := Classical.axiomOfChoice fun y : α1 × α2 × α3 => least fun k => ∃ g, J g ∧ μ g = k ∧ y.1 = f1 g ∧ y.2.1 = f2 g ∧ y.2.2 = f3 g
  refine .mk (fun y1 y2 y3 => ∃ g, J g ∧ y1 = f1 g ∧ y2 = f2 g ∧ y3 = f3 g) (fun y1 y2 y3 => m (y1, y2, y3)) N ?_ ?_
  · refine h0 _ fun z1 z2 z3 g' k6 k7 w1 w2 w3 => ⟨⟨g', k6, w1, w2, w3⟩, ?_⟩
    have := (hm (z1, z2, z3) ⟨_, g', k6, rfl, w1, w2, w3⟩).2 _ ⟨g', k6, rfl, w1, w2, w3⟩
    exact Nat.lt_of_le_of_lt this k7
  · rintro y1 y2 y3 ⟨g1, k1, rfl, rfl, rfl⟩
    obtain ⟨⟨g, k2, k3, q1, q2, q3⟩, k5⟩ := hm (f1 g1, f2 g1, f3 g1) ⟨_, g1, k1, rfl, rfl, rfl, rfl⟩
    dsimp only at q1 q2 q3
    rw [q1, q2, q3]
    refine h g k2 _ fun z1 z2 z3 g' k6 k7 w1 w2 w3 => ⟨⟨g', k6, w1, w2, w3⟩, ?_⟩
    have := (hm (z1, z2, z3) ⟨_, g', k6, rfl, w1, w2, w3⟩).2 _ ⟨g', k6, rfl, w1, w2, w3⟩
    rw [← q1, ← q2, ← q3, ← k3]
    exact Nat.lt_of_le_of_lt this k7
inductive LoopQ4 {α1 : Type} {α2 : Type} {α3 : Type} {α4 : Type} (a : (α1 → α2 → α3 → α4 → Prop) → Prop) (b : α1 → α2 → α3 → α4 → (α1 → α2 → α3 → α4 → Prop) → Prop) : Prop where
  | mk (I : α1 → α2 → α3 → α4 → Prop) (μ : α1 → α2 → α3 → α4 → Nat) (N : Nat) (h0 : a fun y1 y2 y3 y4 => I y1 y2 y3 y4 ∧ μ y1 y2 y3 y4 < N) (h : ∀ y1 y2 y3 y4, I y1 y2 y3 y4 → b y1 y2 y3 y4 fun z1 z2 z3 z4 => I z1 z2 z3 z4 ∧ μ z1 z2 z3 z4 < μ y1 y2 y3 y4) : LoopQ4 a b
theorem LoopQ4.run {α1 : Type} {α2 : Type} {α3 : Type} {α4 : Type} {a : (α1 → α2 → α3 → α4 → Prop) → Prop} {b : α1 → α2 → α3 → α4 → (α1 → α2 → α3 → α4 → Prop) → Prop} {γ : Type} (f1 : γ → α1) (f2 : γ → α2) (f3 : γ → α3) (f4 : γ → α4) (J : γ → Prop) (μ : γ → Nat) (N : Nat)
    (h0 : ∀ K : α1 → α2 → α3 → α4 → Prop, (∀ y1 y2 y3 y4 g', J g' → μ g' < N → y1 = f1 g' → y2 = f2 g' → y3 = f3 g' → y4 = f4 g' → K y1 y2 y3 y4) → a K)
    (h : ∀ g, J g → ∀ K : α1 → α2 → α3 → α4 → Prop, (∀ y1 y2 y3 y4 g', J g' → μ g' < μ g → y1 = f1 g' → y2 = f2 g' → y3 = f3 g' → y4 = f4 g' → K y1 y2 y3 y4) → b (f1 g) (f2 g) (f3 g) (f4 g) K) : LoopQ4 a b := by
  obtain ⟨m, hm⟩ := Classical.axiomOfChoice fun y : α1 × α2 × α3 × α4 => least fun k => ∃ g, J g ∧ μ g = k ∧ y.1 = f1 g ∧ y.2.1 = f2 g ∧ y.2.2.1 = f3 g ∧ y.2.2.2 = f4 g
  refine .mk (fun y1 y2 y3 y4 => ∃ g, J g ∧ y1 = f1 g ∧ y2 = f2 g ∧ y3 = f3 g ∧ y4 = f4 g) (fun y1 y2 y3 y4 => m (y1, y2, y3, y4)) N ?_ ?_
  · refine h0 _ fun z1 z2 z3 z4 g' k6 k7 w1 w2 w3 w4 => ⟨⟨g', k6, w1, w2, w3, w4⟩, ?_⟩
    have := (hm (z1, z2, z3, z4) ⟨_, g', k6, rfl, w1, w2, w3, w4⟩).2 _ ⟨g', k6, rfl, w1, w2, w3, w4⟩
    exact Nat.lt_of_le_of_lt this k7
  · rintro y1 y2 y3 y4 ⟨g1, k1, rfl, rfl, rfl, rfl⟩
    obtain ⟨⟨g, k2, k3, q1, q2, q3, q4⟩, k5⟩ := hm (f1 g1, f2 g1, f3 g1, f4 g1) ⟨_, g1, k1, rfl, rfl, rfl, rfl, rfl⟩
    dsimp only at q1 q2 q3 q4
    rw [q1, q2, q3, q4]
    refine h g k2 _ fun z1 z2 z3 z4 g' k6 k7 w1 w2 w3 w4 => ⟨⟨g', k6, w1, w2, w3, w4⟩, ?_⟩
    have := (hm (z1, z2, z3, z4) ⟨_, g', k6, rfl, w1, w2, w3, w4⟩).2 _ ⟨g', k6, rfl, w1, w2, w3, w4⟩
    rw [← q1, ← q2, ← q3, ← q4, ← k3]
    exact Nat.lt_of_le_of_lt this k7
inductive LoopQ5 {α1 : Type} {α2 : Type} {α3 : Type} {α4 : Type} {α5 : Type} (a : (α1 → α2 → α3 → α4 → α5 → Prop) → Prop) (b : α1 → α2 → α3 → α4 → α5 → (α1 → α2 → α3 → α4 → α5 → Prop) → Prop) : Prop where
  | mk (I : α1 → α2 → α3 → α4 → α5 → Prop) (μ : α1 → α2 → α3 → α4 → α5 → Nat) (N : Nat) (h0 : a fun y1 y2 y3 y4 y5 => I y1 y2 y3 y4 y5 ∧ μ y1 y2 y3 y4 y5 < N) (h : ∀ y1 y2 y3 y4 y5, I y1 y2 y3 y4 y5 → b y1 y2 y3 y4 y5 fun z1 z2 z3 z4 z5 => I z1 z2 z3 z4 z5 ∧ μ z1 z2 z3 z4 z5 < μ y1 y2 y3 y4 y5) : LoopQ5 a b
theorem LoopQ5.run {α1 : Type} {α2 : Type} {α3 : Type} {α4 : Type} {α5 : Type} {a : (α1 → α2 → α3 → α4 → α5 → Prop) → Prop} {b : α1 → α2 → α3 → α4 → α5 → (α1 → α2 → α3 → α4 → α5 → Prop) → Prop} {γ : Type} (f1 : γ → α1) (f2 : γ → α2) (f3 : γ → α3) (f4 : γ → α4) (f5 : γ → α5) (J : γ → Prop) (μ : γ → Nat) (N : Nat)
    (h0 : ∀ K : α1 → α2 → α3 → α4 → α5 → Prop, (∀ y1 y2 y3 y4 y5 g', J g' → μ g' < N → y1 = f1 g' → y2 = f2 g' → y3 = f3 g' → y4 = f4 g' → y5 = f5 g' → K y1 y2 y3 y4 y5) → a K)
    (h : ∀ g, J g → ∀ K : α1 → α2 → α3 → α4 → α5 → Prop, (∀ y1 y2 y3 y4 y5 g', J g' → μ g' < μ g → y1 = f1 g' → y2 = f2 g' → y3 = f3 g' → y4 = f4 g' → y5 = f5 g' → K y1 y2 y3 y4 y5) → b (f1 g) (f2 g) (f3 g) (f4 g) (f5 g) K) : LoopQ5 a b := by
  obtain ⟨m, hm⟩ := Classical.axiomOfChoice fun y : α1 × α2 × α3 × α4 × α5 => least fun k => ∃ g, J g ∧ μ g = k ∧ y.1 = f1 g ∧ y.2.1 = f2 g ∧ y.2.2.1 = f3 g ∧ y.2.2.2.1 = f4 g ∧ y.2.2.2.2 = f5 g
  refine .mk (fun y1 y2 y3 y4 y5 => ∃ g, J g ∧ y1 = f1 g ∧ y2 = f2 g ∧ y3 = f3 g ∧ y4 = f4 g ∧ y5 = f5 g) (fun y1 y2 y3 y4 y5 => m (y1, y2, y3, y4, y5)) N ?_ ?_
  · refine h0 _ fun z1 z2 z3 z4 z5 g' k6 k7 w1 w2 w3 w4 w5 => ⟨⟨g', k6, w1, w2, w3, w4, w5⟩, ?_⟩
    have := (hm (z1, z2, z3, z4, z5) ⟨_, g', k6, rfl, w1, w2, w3, w4, w5⟩).2 _ ⟨g', k6, rfl, w1, w2, w3, w4, w5⟩
    exact Nat.lt_of_le_of_lt this k7
  · rintro y1 y2 y3 y4 y5 ⟨g1, k1, rfl, rfl, rfl, rfl, rfl⟩
    obtain ⟨⟨g, k2, k3, q1, q2, q3, q4, q5⟩, k5⟩ := hm (f1 g1, f2 g1, f3 g1, f4 g1, f5 g1) ⟨_, g1, k1, rfl, rfl, rfl, rfl, rfl, rfl⟩
    dsimp only at q1 q2 q3 q4 q5
    rw [q1, q2, q3, q4, q5]
    refine h g k2 _ fun z1 z2 z3 z4 z5 g' k6 k7 w1 w2 w3 w4 w5 => ⟨⟨g', k6, w1, w2, w3, w4, w5⟩, ?_⟩
    have := (hm (z1, z2, z3, z4, z5) ⟨_, g', k6, rfl, w1, w2, w3, w4, w5⟩).2 _ ⟨g', k6, rfl, w1, w2, w3, w4, w5⟩
    rw [← q1, ← q2, ← q3, ← q4, ← q5, ← k3]
    exact Nat.lt_of_le_of_lt this k7
inductive LoopQ6 {α1 : Type} {α2 : Type} {α3 : Type} {α4 : Type} {α5 : Type} {α6 : Type} (a : (α1 → α2 → α3 → α4 → α5 → α6 → Prop) → Prop) (b : α1 → α2 → α3 → α4 → α5 → α6 → (α1 → α2 → α3 → α4 → α5 → α6 → Prop) → Prop) : Prop where
  | mk (I : α1 → α2 → α3 → α4 → α5 → α6 → Prop) (μ : α1 → α2 → α3 → α4 → α5 → α6 → Nat) (N : Nat) (h0 : a fun y1 y2 y3 y4 y5 y6 => I y1 y2 y3 y4 y5 y6 ∧ μ y1 y2 y3 y4 y5 y6 < N) (h : ∀ y1 y2 y3 y4 y5 y6, I y1 y2 y3 y4 y5 y6 → b y1 y2 y3 y4 y5 y6 fun z1 z2 z3 z4 z5 z6 => I z1 z2 z3 z4 z5 z6 ∧ μ z1 z2 z3 z4 z5 z6 < μ y1 y2 y3 y4 y5 y6) : LoopQ6 a b
theorem LoopQ6.run {α1 : Type} {α2 : Type} {α3 : Type} {α4 : Type} {α5 : Type} {α6 : Type} {a : (α1 → α2 → α3 → α4 → α5 → α6 → Prop) → Prop} {b : α1 → α2 → α3 → α4 → α5 → α6 → (α1 → α2 → α3 → α4 → α5 → α6 → Prop) → Prop} {γ : Type} (f1 : γ → α1) (f2 : γ → α2) (f3 : γ → α3) (f4 : γ → α4) (f5 : γ → α5) (f6 : γ → α6) (J : γ → Prop) (μ : γ → Nat) (N : Nat)
    (h0 : ∀ K : α1 → α2 → α3 → α4 → α5 → α6 → Prop, (∀ y1 y2 y3 y4 y5 y6 g', J g' → μ g' < N → y1 = f1 g' → y2 = f2 g' → y3 = f3 g' → y4 = f4 g' → y5 = f5 g' → y6 = f6 g' → K y1 y2 y3 y4 y5 y6) → a K)
    (h : ∀ g, J g → ∀ K : α1 → α2 → α3 → α4 → α5 → α6 → Prop, (∀ y1 y2 y3 y4 y5 y6 g', J g' → μ g' < μ g → y1 = f1 g' → y2 = f2 g' → y3 = f3 g' → y4 = f4 g' → y5 = f5 g' → y6 = f6 g' → K y1 y2 y3 y4 y5 y6) → b (f1 g) (f2 g) (f3 g) (f4 g) (f5 g) (f6 g) K) : LoopQ6 a b := by
  obtain ⟨m, hm⟩ := Classical.axiomOfChoice fun y : α1 × α2 × α3 × α4 × α5 × α6 => least fun k => ∃ g, J g ∧ μ g = k ∧ y.1 = f1 g ∧ y.2.1 = f2 g ∧ y.2.2.1 = f3 g ∧ y.2.2.2.1 = f4 g ∧ y.2.2.2.2.1 = f5 g ∧ y.2.2.2.2.2 = f6 g
  refine .mk (fun y1 y2 y3 y4 y5 y6 => ∃ g, J g ∧ y1 = f1 g ∧ y2 = f2 g ∧ y3 = f3 g ∧ y4 = f4 g ∧ y5 = f5 g ∧ y6 = f6 g) (fun y1 y2 y3 y4 y5 y6 => m (y1, y2, y3, y4, y5, y6)) N ?_ ?_
  · refine h0 _ fun z1 z2 z3 z4 z5 z6 g' k6 k7 w1 w2 w3 w4 w5 w6 => ⟨⟨g', k6, w1, w2, w3, w4, w5, w6⟩, ?_⟩
    have := (hm (z1, z2, z3, z4, z5, z6) ⟨_, g', k6, rfl, w1, w2, w3, w4, w5, w6⟩).2 _ ⟨g', k6, rfl, w1, w2, w3, w4, w5, w6⟩
    exact Nat.lt_of_le_of_lt this k7
  · rintro y1 y2 y3 y4 y5 y6 ⟨g1, k1, rfl, rfl, rfl, rfl, rfl, rfl⟩
    obtain ⟨⟨g, k2, k3, q1, q2, q3, q4, q5, q6⟩, k5⟩ := hm (f1 g1, f2 g1, f3 g1, f4 g1, f5 g1, f6 g1) ⟨_, g1, k1, rfl, rfl, rfl, rfl, rfl, rfl, rfl⟩
    dsimp only at q1 q2 q3 q4 q5 q6
    rw [q1, q2, q3, q4, q5, q6]
    refine h g k2 _ fun z1 z2 z3 z4 z5 z6 g' k6 k7 w1 w2 w3 w4 w5 w6 => ⟨⟨g', k6, w1, w2, w3, w4, w5, w6⟩, ?_⟩
    have := (hm (z1, z2, z3, z4, z5, z6) ⟨_, g', k6, rfl, w1, w2, w3, w4, w5, w6⟩).2 _ ⟨g', k6, rfl, w1, w2, w3, w4, w5, w6⟩
    rw [← q1, ← q2, ← q3, ← q4, ← q5, ← q6, ← k3]
    exact Nat.lt_of_le_of_lt this k7
/-! ### Numbers that count up -/
theorem wrap_up {n : Nat} {k : Int} (hk : k = n) (h : n < 9223372036854775807) : IntKind.i64.wrap (k + 1) = ((n + 1 : Nat) : Int) := by subst hk; rw [wrap_in (by omega) (by omega)]; simp
theorem wrap_dn {n : Nat} {k : Int} (hk : k = n) (h0 : 0 < n) (h : n < 9223372036854775807) : IntKind.i64.wrap (k - 1) = ((n - 1 : Nat) : Int) := by subst hk; rw [wrap_in (by omega) (by omega)]; omega
theorem toNat_cast (n : Nat) : (n : Int).toNat = n := Int.toNat_natCast n
end Go.Eng
namespace Go.Eng
open Go.RowKit
/-- The walk of f's code in the abstract heap H: what it hands back, and the heap behind it. -/
structure WEg (P : Program) (tbl : FuncId → List A → List C) (f : RFn) (Q : A → List O → Prop) (ds : List A) (H : List O) : Prop where
  h : f.body.wp P (stdE P tbl) H.length (finR (stdE P tbl) H.length f.results Q) ⟨ds ++ List.replicate (f.ntmps - ds.length) .u, H⟩
theorem ACalls_vc {P : Program} {D : Opts} {f : FuncId} {rf : RFn} {ds : List A} {H : List O} {Q : A → List O → Prop} {tbl : FuncId → List A → List C} (hm : P.follows .mixedOrders = true) (h : fnR P D f = some rf) (hw : WEg P tbl rf Q ds H) : ACalls P f ds H Q :=
  ACalls_of tbl hm h (fun _ _ h => h) hw.h
theorem ACallsD_vc {P : Program} {D : Opts} {f : FuncId} {rf : RFn} {ds : List A} {H : List O} {Q : A → List O → Prop} {tbl : FuncId → List A → List C} (hm : P.follows .mixedOrders = true) (h : fnR P D f = some rf) (hw : WEg P tbl rf Q ds H) : ACallsW (XD P) f ds H Q :=
  ACallsD_of tbl hm h (fun _ _ h => h) hw.h
/-- The walk of the code of a function that defers a closure. -/
structure WDg (P : Program) (tbl : FuncId → List A → List C) (f : RFnD) (Q : A → List O → Prop) (ds : List A) (H : List O) : Prop where
  h : f.body.wp P (stdE P tbl) H.length (finR (stdE P tbl) H.length f.results Q) (finD P (stdE P tbl) H.length f.results Q) ⟨ds ++ List.replicate (f.ntmps - ds.length) .u, H⟩
theorem ACalls_vcD {P : Program} {D : Opts} {f : FuncId} {rf : RFnD} {ds : List A} {H : List O} {Q : A → List O → Prop} {tbl : FuncId → List A → List C} (hm : P.follows .mixedOrders = true) (h : fnRD P D f = some rf) (hw : WDg P tbl rf Q ds H) : ACalls P f ds H Q :=
  ACalls_defer tbl hm h (fun _ _ h => h) (fun _ _ _ _ h => h) hw.h
theorem GFin.of {n0 : Nat} {r r' : A} {H H' : List O} (h : GSt n0 ⟨[r], H⟩ ⟨[r'], H'⟩) : GFin n0 r H r' H' := by
  intro w0 G0 G w v hH hv ha hle hfr hn
  obtain ⟨G', hs⟩ := h w0 G0 G ⟨#[v], w0.df⟩ w ⟨rfl, fun t h1 h2 => by
    have : t = 0 := by simpa using h1
    subst this; exact hv, hH, rfl, hle, ha, hfr, hn⟩
  exact ⟨G', hs.hr, hs.val 0 (by simp) (by simp), hs.le, hs.fr, hs.n0⟩
/-- A function on the call's own array of elements lay that hands back nothing: what it makes of it. -/
def OnArr (sp : List (List C) → (List (List C) → Prop) → Prop) (lay : List LK) (P : Program) (f : FuncId) : Prop :=
  hasBody P f = true ∧ ∀ {T : TypeId} (xs : List (List C)) (K : List (List C) → Prop), sp xs K → ACalls P f [.gr 0] [.arr T lay xs] fun r H' => ∃ d, K d ∧ r = .tup [] ∧ H' = [.arr T lay d]
/-- slices.Grow at nil. -/
def spGrow (n : Int) (K : List (List C) → Prop) : Prop := 0 ≤ n ∧ n ≤ 1000000000 ∧ ∀ d, K d
def GrowC (T : TypeId) (lay : List LK) (P : Program) (f : FuncId) : Prop :=
  hasBody P f = true ∧ ∀ (n : Int) (K : List (List C) → Prop), spGrow n K → ACalls P f [.c .nil, .c (.int .i64 n)] [] fun r H' => ∃ d, K d ∧ r = .own 0 0 0 ∧ H' = [.arr T lay d]
end Go.Eng

/- An abstract machine over plain data, part ZI: small words for plain conditions; rows of integers. -/
namespace Go.Eng
open Go.RowKit
/-- nil, for a slice without elements. -/
theorem PureC.nil0 {P : Program} {f : FuncId} {rty : List (Bool × List LK)} {lay : List LK} {ds : List A} {get : Nat → C} (k : PureC P f rty (.c (.sl lay []) :: ds) get) : PureC P f rty (.c .nil :: ds) get :=
  ⟨k.1, ACalls.le (ds := .c (.sl lay []) :: ds) (by simp) (fun G i h1 h2 v hv => by
    cases i with
    | zero => exact VR.nilSl lay hv
    | succ i => exact hv) k.2⟩
theorem PureC.nil1 {P : Program} {f : FuncId} {rty : List (Bool × List LK)} {lay : List LK} {a : A} {ds : List A} {get : Nat → C} (k : PureC P f rty (a :: .c (.sl lay []) :: ds) get) : PureC P f rty (a :: .c .nil :: ds) get :=
  ⟨k.1, ACalls.le (ds := a :: .c (.sl lay []) :: ds) (by simp) (fun G i h1 h2 v hv => by
    match i with
    | 0 => exact hv
    | 1 => exact VR.nilSl lay hv
    | i + 2 => exact hv) k.2⟩
theorem PureC.cg {P : Program} {f : FuncId} {rty : List (Bool × List LK)} {ds : List A} {l l' : List C} (h : PureC P f rty ds fun i => l.getD i .nil) (e : l = l') : PureC P f rty ds fun i => l'.getD i .nil := e ▸ h
/-! ### Lists -/
theorem foldl_take {α β : Type} (f : β → α → β) (b : β) (l : List α) (d : α) {i : Nat} (h : i < l.length) : (l.take (i + 1)).foldl f b = f ((l.take i).foldl f b) (l.getD i d) := by
  rw [List.take_add_one, List.foldl_append]
  simp [List.getD, h]
theorem any_take {α : Type} (f : α → Bool) (l : List α) (d : α) {i : Nat} (h : i < l.length) : (l.take (i + 1)).any f = ((l.take i).any f || f (l.getD i d)) := by
  rw [List.take_add_one, List.any_append]
  simp [List.getD, h]
theorem all_take {α : Type} (f : α → Bool) (l : List α) (d : α) {i : Nat} (h : i < l.length) : (l.take (i + 1)).all f = ((l.take i).all f && f (l.getD i d)) := by
  rw [List.take_add_one, List.all_append]
  simp [List.getD, h]
theorem filter_take {α : Type} (p : α → Bool) (l : List α) (d : α) {n : Nat} (h : n < l.length) : (l.take (n + 1)).filter p = (l.take n).filter p ++ if p (l.getD n d) then [l.getD n d] else [] := by
  have hg : l.getD n d = l[n] := by simp [List.getD, h]
  rw [List.take_add_one, List.getElem?_eq_getElem h, hg, Option.toList_some, List.filter_append]
  congr 1
  by_cases hp : p l[n] <;> simp [hp]
theorem map_take {α β : Type} (f : α → β) (l : List α) (d : α) {n : Nat} (h : n < l.length) : (l.take (n + 1)).map f = (l.take n).map f ++ [f (l.getD n d)] := by
  have hg : l.getD n d = l[n] := by simp [List.getD, h]
  rw [List.take_add_one, List.getElem?_eq_getElem h, hg, Option.toList_some, List.map_append]; rfl
theorem filtmap_take {α β : Type} (p : α → Bool) (f : α → β) (l : List α) (d : α) {n : Nat} (h : n < l.length) : ((l.take (n + 1)).filter p).map f = ((l.take n).filter p).map f ++ if p (l.getD n d) then [f (l.getD n d)] else [] := by
  rw [filter_take p l d h, List.map_append]
  congr 1
  by_cases hp : p (l.getD n d) = true
  · rw [if_pos hp, if_pos hp]; rfl
  · rw [if_neg hp, if_neg hp]; rfl
theorem getD_mem {α : Type} {l : List α} {d : α} {n : Nat} (h : n < l.length) : l.getD n d ∈ l := by
  have hg : l.getD n d = l[n] := by simp [List.getD, h]
  rw [hg]; exact List.getElem_mem h
theorem getD_get {α : Type} {l : List α} {d : α} {n : Nat} (h : n < l.length) : l.getD n d = l[n] := by simp [List.getD, h]
theorem take_ne {α : Type} {l m : List α} (n : Nat) (h : l.take n ≠ m.take n) : l ≠ m := fun e => h (by rw [e])
theorem tw_take {p : Int → Bool} : ∀ (l : List Int) (k : Nat), (∀ j, j < k → j < l.length ∧ p (l.getD j 0) = true) → (k < l.length → p (l.getD k 0) = false) → l.takeWhile p = l.take k ∧ l.dropWhile p = l.drop k
  | [], k, h1, _ => by simp
  | a :: l, 0, _, h2 => by
    have := h2 (by simp)
    simp at this
    simp [this]
  | a :: l, k + 1, h1, h2 => by
    have h0 := (h1 0 (by omega)).2
    simp at h0
    obtain ⟨e1, e2⟩ := tw_take l k (fun j hj => by have := h1 (j + 1) (by omega); simpa using this) (fun hk => by have := h2 (by simpa using hk); simpa using this)
    simp [h0, e1, e2]
/-- The first of j .. n - 1 with p; -1 if there is none. -/
def ixF (n : Nat) (p : Nat → Bool) (j : Nat) : Int := if j < n then (if p j then j else ixF n p (j + 1)) else -1
termination_by n - j
theorem ixF_lt {n : Nat} {p : Nat → Bool} {j : Nat} (h : j < n) : ixF n p j = if p j then (j : Int) else ixF n p (j + 1) := by rw [ixF, if_pos h]
theorem ixF_ge {n : Nat} {p : Nat → Bool} {j : Nat} (h : ¬ j < n) : ixF n p j = -1 := by rw [ixF, if_neg h]
theorem ixF_pos {n : Nat} {p : Nat → Bool} : ∀ d j, n - j = d → (0 ≤ ixF n p j ↔ ∃ k, j ≤ k ∧ k < n ∧ p k = true) := by
  intro d
  induction d with
  | zero => intro j h; rw [ixF_ge (by omega)]; exact ⟨fun q => by omega, fun ⟨k, a, b, _⟩ => by omega⟩
  | succ d ih =>
    intro j h
    rw [ixF_lt (by omega)]
    cases hp : p j with
    | true => exact ⟨fun _ => ⟨j, Nat.le_refl _, by omega, hp⟩, fun _ => by simp⟩
    | false =>
      rw [if_neg (by simp), ih (j + 1) (by omega)]
      constructor
      · rintro ⟨k, a, b, c⟩; exact ⟨k, by omega, b, c⟩
      · rintro ⟨k, a, b, c⟩
        have : k ≠ j := fun e => by subst e; rw [hp] at c; cases c
        exact ⟨k, by omega, b, c⟩
/-! ### Rows of integers -/
/-- Integers as elements. -/
def rowsI (zs : List Int) : List (List C) := zs.map fun z => [.int .i64 z]

abbrev iK : LK := .int .i64
abbrev iC (n : Int) : A := .c (.int .i64 n)
abbrev kI : Bool × List LK := (false, [iK])
abbrev kB : Bool × List LK := (false, [.bool])
theorem rowsI_len (zs : List Int) : (rowsI zs).length = zs.length := by simp [rowsI]
theorem rowsI_append (a b : List Int) : rowsI (a ++ b) = rowsI a ++ rowsI b := by simp [rowsI]
theorem rowsI_cut (zs : List Int) (a b : Nat) : List.drop a (List.take b (rowsI zs)) = rowsI ((zs.take b).drop a) := by simp [rowsI, List.map_take, List.map_drop]
theorem rowsI_upd (zs : List Int) (k : Nat) (x : Int) : updC (rowsI zs) k 0 (.int .i64 x) = rowsI (zs.set k x) := by
  unfold updC rowsI
  by_cases h : k < zs.length
  · simp [List.getD, h, setC, List.map_set]
  · rw [List.set_eq_of_length_le (by simp; omega), List.set_eq_of_length_le (by omega)]
theorem rowsI_getD (zs : List Int) (i : Nat) : (cellAt (rowsI zs) i 0).gi = zs.getD i 0 := by
  by_cases h : i < zs.length
  · simp [cellAt, rowsI, List.getD, h, C.gi]
  · simp [cellAt, rowsI, List.getD, Nat.le_of_not_lt h, C.gi]
def prI (xs : List (List C)) : List Int := xs.map fun r => (r.getD 0 .nil).gi
theorem prI_rowsI (zs : List Int) : prI (rowsI zs) = zs := by
  simp only [prI, rowsI, List.map_map]
  exact (List.map_congr_left fun z _ => rfl).trans (List.map_id zs)
theorem rows_I {xs : List (List C)} (h : ∀ r ∈ xs, FitR [iK] r) : ∃ zs : List Int, xs = rowsI zs := by
  induction xs with
  | nil => exact ⟨[], rfl⟩
  | cons x xs ih =>
    obtain ⟨rs, rfl⟩ := ih fun r hr => h r (List.mem_cons_of_mem _ hr)
    match x, h x (by simp) with
    | [.int k a], h =>
      simp only [FitR, FitC] at h
      obtain ⟨⟨rfl, _⟩, _⟩ := h
      exact ⟨a :: rs, rfl⟩

abbrev I2 := Int × Int
abbrev l2 : List LK := [iK, iK]
abbrev z2 : I2 := (0, 0)
/-- The cells of 2 integers. -/
def cs2 (r : I2) : List C := [.int .i64 r.1, .int .i64 r.2]
abbrev ag2 (a0 a1 : Int) : A := .agg [.c (.int .i64 a0), .c (.int .i64 a1)]
def row2 (rs : List I2) : List (List C) := rs.map cs2
abbrev s2 (xs : List (List C)) : A := .c (.sl l2 xs)
abbrev kA2 : Bool × List LK := (true, l2)
abbrev kS2 : Bool × List LK := (false, [.sl l2])
theorem row2_len (rs : List I2) : (row2 rs).length = rs.length := by simp [row2]
theorem row2_append (a b : List I2) : row2 (a ++ b) = row2 a ++ row2 b := by simp [row2]
theorem row2_one (r : I2) : row2 [r] = [cs2 r] := rfl
theorem row2_cut (zs : List I2) (a b : Nat) : List.drop a (List.take b (row2 zs)) = row2 ((zs.take b).drop a) := by simp [row2, List.map_take, List.map_drop]
theorem row2_getD (rs : List I2) (i j : Nat) (hj : j < 2) : cellAt (row2 rs) i j = if i < rs.length then (cs2 (rs.getD i z2)).getD j .nil else .nil := by
  unfold cellAt row2
  by_cases h : i < rs.length
  · simp [List.getD, h]
  · simp [List.getD, h, Nat.le_of_not_lt h]
theorem row2_c0 (rs : List I2) (i : Nat) : (cellAt (row2 rs) i 0).gi = (rs.getD i z2).1 := by
  rw [row2_getD rs i 0 (by decide)]
  by_cases h : i < rs.length
  · rw [if_pos h]; rfl
  · rw [if_neg h]; simp [List.getD, Nat.le_of_not_lt h, C.gi]
theorem row2_c1 (rs : List I2) (i : Nat) : (cellAt (row2 rs) i 1).gi = (rs.getD i z2).2 := by
  rw [row2_getD rs i 1 (by decide)]
  by_cases h : i < rs.length
  · rw [if_pos h]; rfl
  · rw [if_neg h]; simp [List.getD, Nat.le_of_not_lt h, C.gi]
theorem row2_set (rs : List I2) (k : Nat) (a0 a1 : Int) : updC (updC (row2 rs) k 1 (.int .i64 a1)) k 0 (.int .i64 a0) = row2 (rs.set k (a0, a1)) := by
  unfold updC row2
  by_cases h : k < rs.length
  · simp [List.getD, h, setC, List.map_set, cs2]
  · simp [List.set_eq_of_length_le, Nat.le_of_not_lt h]
theorem row2_set0 (rs : List I2) (k : Nat) (x : Int) : updC (row2 rs) k 0 (.int .i64 x) = row2 (rs.set k (x, (rs.getD k z2).2)) := by
  unfold updC row2
  by_cases h : k < rs.length
  · simp [List.getD, h, setC, List.map_set, cs2]
  · simp [List.set_eq_of_length_le, Nat.le_of_not_lt h]
theorem row2_set1 (rs : List I2) (k : Nat) (x : Int) : updC (row2 rs) k 1 (.int .i64 x) = row2 (rs.set k ((rs.getD k z2).1, x)) := by
  unfold updC row2
  by_cases h : k < rs.length
  · simp [List.getD, h, setC, List.map_set, cs2]
  · simp [List.set_eq_of_length_le, Nat.le_of_not_lt h]
def un2 (xs : List (List C)) : List I2 := xs.map fun r => ((r.getD 0 .nil).gi, (r.getD 1 .nil).gi)
theorem un2_row (rs : List I2) : un2 (row2 rs) = rs := by
  simp only [un2, row2, List.map_map]
  exact (List.map_congr_left fun z _ => rfl).trans (List.map_id rs)
theorem fit_2 {row : List C} (h : FitR l2 row) : ∃ r : I2, row = cs2 r := by
  match row, h with
  | [.int k0 a0, .int k1 a1], h =>
    simp only [FitR, FitC] at h
    obtain ⟨⟨rfl, _⟩, ⟨rfl, _⟩, _⟩ := h
    exact ⟨(a0, a1), rfl⟩
theorem rows_2 {xs : List (List C)} (h : ∀ r ∈ xs, FitR l2 r) : ∃ rs : List I2, xs = row2 rs := by
  induction xs with
  | nil => exact ⟨[], rfl⟩
  | cons x xs ih =>
    obtain ⟨rs, rfl⟩ := ih fun r hr => h r (List.mem_cons_of_mem _ hr)
    obtain ⟨r, rfl⟩ := fit_2 (h x (by simp))
    exact ⟨r :: rs, rfl⟩
abbrev I3 := Int × Int × Int
abbrev l3 : List LK := [iK, iK, iK]
abbrev z3 : I3 := (0, 0, 0)
/-- The cells of 3 integers. -/
def cs3 (r : I3) : List C := [.int .i64 r.1, .int .i64 r.2.1, .int .i64 r.2.2]
abbrev ag3 (a0 a1 a2 : Int) : A := .agg [.c (.int .i64 a0), .c (.int .i64 a1), .c (.int .i64 a2)]
def row3 (rs : List I3) : List (List C) := rs.map cs3
abbrev s3 (xs : List (List C)) : A := .c (.sl l3 xs)
abbrev kA3 : Bool × List LK := (true, l3)
abbrev kS3 : Bool × List LK := (false, [.sl l3])
theorem row3_len (rs : List I3) : (row3 rs).length = rs.length := by simp [row3]
theorem row3_append (a b : List I3) : row3 (a ++ b) = row3 a ++ row3 b := by simp [row3]
theorem row3_one (r : I3) : row3 [r] = [cs3 r] := rfl
theorem row3_cut (zs : List I3) (a b : Nat) : List.drop a (List.take b (row3 zs)) = row3 ((zs.take b).drop a) := by simp [row3, List.map_take, List.map_drop]
theorem row3_getD (rs : List I3) (i j : Nat) (hj : j < 3) : cellAt (row3 rs) i j = if i < rs.length then (cs3 (rs.getD i z3)).getD j .nil else .nil := by
  unfold cellAt row3
  by_cases h : i < rs.length
  · simp [List.getD, h]
  · simp [List.getD, h, Nat.le_of_not_lt h]
theorem row3_c0 (rs : List I3) (i : Nat) : (cellAt (row3 rs) i 0).gi = (rs.getD i z3).1 := by
  rw [row3_getD rs i 0 (by decide)]
  by_cases h : i < rs.length
  · rw [if_pos h]; rfl
  · rw [if_neg h]; simp [List.getD, Nat.le_of_not_lt h, C.gi]
theorem row3_c1 (rs : List I3) (i : Nat) : (cellAt (row3 rs) i 1).gi = (rs.getD i z3).2.1 := by
  rw [row3_getD rs i 1 (by decide)]
  by_cases h : i < rs.length
  · rw [if_pos h]; rfl
  · rw [if_neg h]; simp [List.getD, Nat.le_of_not_lt h, C.gi]
theorem row3_c2 (rs : List I3) (i : Nat) : (cellAt (row3 rs) i 2).gi = (rs.getD i z3).2.2 := by
  rw [row3_getD rs i 2 (by decide)]
  by_cases h : i < rs.length
  · rw [if_pos h]; rfl
  · rw [if_neg h]; simp [List.getD, Nat.le_of_not_lt h, C.gi]
theorem row3_set (rs : List I3) (k : Nat) (a0 a1 a2 : Int) : updC (updC (updC (row3 rs) k 2 (.int .i64 a2)) k 1 (.int .i64 a1)) k 0 (.int .i64 a0) = row3 (rs.set k (a0, a1, a2)) := by
  unfold updC row3
  by_cases h : k < rs.length
  · simp [List.getD, h, setC, List.map_set, cs3]
  · simp [List.set_eq_of_length_le, Nat.le_of_not_lt h]
theorem row3_set0 (rs : List I3) (k : Nat) (x : Int) : updC (row3 rs) k 0 (.int .i64 x) = row3 (rs.set k (x, (rs.getD k z3).2.1, (rs.getD k z3).2.2)) := by
  unfold updC row3
  by_cases h : k < rs.length
  · simp [List.getD, h, setC, List.map_set, cs3]
  · simp [List.set_eq_of_length_le, Nat.le_of_not_lt h]
theorem row3_set1 (rs : List I3) (k : Nat) (x : Int) : updC (row3 rs) k 1 (.int .i64 x) = row3 (rs.set k ((rs.getD k z3).1, x, (rs.getD k z3).2.2)) := by
  unfold updC row3
  by_cases h : k < rs.length
  · simp [List.getD, h, setC, List.map_set, cs3]
  · simp [List.set_eq_of_length_le, Nat.le_of_not_lt h]
theorem row3_set2 (rs : List I3) (k : Nat) (x : Int) : updC (row3 rs) k 2 (.int .i64 x) = row3 (rs.set k ((rs.getD k z3).1, (rs.getD k z3).2.1, x)) := by
  unfold updC row3
  by_cases h : k < rs.length
  · simp [List.getD, h, setC, List.map_set, cs3]
  · simp [List.set_eq_of_length_le, Nat.le_of_not_lt h]
def un3 (xs : List (List C)) : List I3 := xs.map fun r => ((r.getD 0 .nil).gi, (r.getD 1 .nil).gi, (r.getD 2 .nil).gi)
theorem un3_row (rs : List I3) : un3 (row3 rs) = rs := by
  simp only [un3, row3, List.map_map]
  exact (List.map_congr_left fun z _ => rfl).trans (List.map_id rs)
theorem fit_3 {row : List C} (h : FitR l3 row) : ∃ r : I3, row = cs3 r := by
  match row, h with
  | [.int k0 a0, .int k1 a1, .int k2 a2], h =>
    simp only [FitR, FitC] at h
    obtain ⟨⟨rfl, _⟩, ⟨rfl, _⟩, ⟨rfl, _⟩, _⟩ := h
    exact ⟨(a0, a1, a2), rfl⟩
theorem rows_3 {xs : List (List C)} (h : ∀ r ∈ xs, FitR l3 r) : ∃ rs : List I3, xs = row3 rs := by
  induction xs with
  | nil => exact ⟨[], rfl⟩
  | cons x xs ih =>
    obtain ⟨rs, rfl⟩ := ih fun r hr => h r (List.mem_cons_of_mem _ hr)
    obtain ⟨r, rfl⟩ := fit_3 (h x (by simp))
    exact ⟨r :: rs, rfl⟩
abbrev I4 := Int × Int × Int × Int
abbrev l4 : List LK := [iK, iK, iK, iK]
abbrev z4 : I4 := (0, 0, 0, 0)
/-- The cells of 4 integers. -/
def cs4 (r : I4) : List C := [.int .i64 r.1, .int .i64 r.2.1, .int .i64 r.2.2.1, .int .i64 r.2.2.2]
abbrev ag4 (a0 a1 a2 a3 : Int) : A := .agg [.c (.int .i64 a0), .c (.int .i64 a1), .c (.int .i64 a2), .c (.int .i64 a3)]
def row4 (rs : List I4) : List (List C) := rs.map cs4
abbrev s4 (xs : List (List C)) : A := .c (.sl l4 xs)
abbrev kA4 : Bool × List LK := (true, l4)
abbrev kS4 : Bool × List LK := (false, [.sl l4])
theorem row4_len (rs : List I4) : (row4 rs).length = rs.length := by simp [row4]
theorem row4_append (a b : List I4) : row4 (a ++ b) = row4 a ++ row4 b := by simp [row4]
theorem row4_one (r : I4) : row4 [r] = [cs4 r] := rfl
theorem row4_cut (zs : List I4) (a b : Nat) : List.drop a (List.take b (row4 zs)) = row4 ((zs.take b).drop a) := by simp [row4, List.map_take, List.map_drop]
theorem row4_getD (rs : List I4) (i j : Nat) (hj : j < 4) : cellAt (row4 rs) i j = if i < rs.length then (cs4 (rs.getD i z4)).getD j .nil else .nil := by
  unfold cellAt row4
  by_cases h : i < rs.length
  · simp [List.getD, h]
  · simp [List.getD, h, Nat.le_of_not_lt h]
theorem row4_c0 (rs : List I4) (i : Nat) : (cellAt (row4 rs) i 0).gi = (rs.getD i z4).1 := by
  rw [row4_getD rs i 0 (by decide)]
  by_cases h : i < rs.length
  · rw [if_pos h]; rfl
  · rw [if_neg h]; simp [List.getD, Nat.le_of_not_lt h, C.gi]
theorem row4_c1 (rs : List I4) (i : Nat) : (cellAt (row4 rs) i 1).gi = (rs.getD i z4).2.1 := by
  rw [row4_getD rs i 1 (by decide)]
  by_cases h : i < rs.length
  · rw [if_pos h]; rfl
  · rw [if_neg h]; simp [List.getD, Nat.le_of_not_lt h, C.gi]
theorem row4_c2 (rs : List I4) (i : Nat) : (cellAt (row4 rs) i 2).gi = (rs.getD i z4).2.2.1 := by
  rw [row4_getD rs i 2 (by decide)]
  by_cases h : i < rs.length
  · rw [if_pos h]; rfl
  · rw [if_neg h]; simp [List.getD, Nat.le_of_not_lt h, C.gi]
theorem row4_c3 (rs : List I4) (i : Nat) : (cellAt (row4 rs) i 3).gi = (rs.getD i z4).2.2.2 := by
  rw [row4_getD rs i 3 (by decide)]
  by_cases h : i < rs.length
  · rw [if_pos h]; rfl
  · rw [if_neg h]; simp [List.getD, Nat.le_of_not_lt h, C.gi]
theorem row4_set (rs : List I4) (k : Nat) (a0 a1 a2 a3 : Int) : updC (updC (updC (updC (row4 rs) k 3 (.int .i64 a3)) k 2 (.int .i64 a2)) k 1 (.int .i64 a1)) k 0 (.int .i64 a0) = row4 (rs.set k (a0, a1, a2, a3)) := by
  unfold updC row4
  by_cases h : k < rs.length
  · simp [List.getD, h, setC, List.map_set, cs4]
  · simp [List.set_eq_of_length_le, Nat.le_of_not_lt h]
theorem row4_set0 (rs : List I4) (k : Nat) (x : Int) : updC (row4 rs) k 0 (.int .i64 x) = row4 (rs.set k (x, (rs.getD k z4).2.1, (rs.getD k z4).2.2.1, (rs.getD k z4).2.2.2)) := by
  unfold updC row4
  by_cases h : k < rs.length
  · simp [List.getD, h, setC, List.map_set, cs4]
  · simp [List.set_eq_of_length_le, Nat.le_of_not_lt h]
theorem row4_set1 (rs : List I4) (k : Nat) (x : Int) : updC (row4 rs) k 1 (.int .i64 x) = row4 (rs.set k ((rs.getD k z4).1, x, (rs.getD k z4).2.2.1, (rs.getD k z4).2.2.2)) := by
  unfold updC row4
  by_cases h : k < rs.length
  · simp [List.getD, h, setC, List.map_set, cs4]
  · simp [List.set_eq_of_length_le, Nat.le_of_not_lt h]
theorem row4_set2 (rs : List I4) (k : Nat) (x : Int) : updC (row4 rs) k 2 (.int .i64 x) = row4 (rs.set k ((rs.getD k z4).1, (rs.getD k z4).2.1, x, (rs.getD k z4).2.2.2)) := by
  unfold updC row4
  by_cases h : k < rs.length
  · simp [List.getD, h, setC, List.map_set, cs4]
  · simp [List.set_eq_of_length_le, Nat.le_of_not_lt h]
theorem row4_set3 (rs : List I4) (k : Nat) (x : Int) : updC (row4 rs) k 3 (.int .i64 x) = row4 (rs.set k ((rs.getD k z4).1, (rs.getD k z4).2.1, (rs.getD k z4).2.2.1, x)) := by
  unfold updC row4
  by_cases h : k < rs.length
  · simp [List.getD, h, setC, List.map_set, cs4]
  · simp [List.set_eq_of_length_le, Nat.le_of_not_lt h]
def un4 (xs : List (List C)) : List I4 := xs.map fun r => ((r.getD 0 .nil).gi, (r.getD 1 .nil).gi, (r.getD 2 .nil).gi, (r.getD 3 .nil).gi)
theorem un4_row (rs : List I4) : un4 (row4 rs) = rs := by
  simp only [un4, row4, List.map_map]
  exact (List.map_congr_left fun z _ => rfl).trans (List.map_id rs)
theorem fit_4 {row : List C} (h : FitR l4 row) : ∃ r : I4, row = cs4 r := by
  match row, h with
  | [.int k0 a0, .int k1 a1, .int k2 a2, .int k3 a3], h =>
    simp only [FitR, FitC] at h
    obtain ⟨⟨rfl, _⟩, ⟨rfl, _⟩, ⟨rfl, _⟩, ⟨rfl, _⟩, _⟩ := h
    exact ⟨(a0, a1, a2, a3), rfl⟩
theorem rows_4 {xs : List (List C)} (h : ∀ r ∈ xs, FitR l4 r) : ∃ rs : List I4, xs = row4 rs := by
  induction xs with
  | nil => exact ⟨[], rfl⟩
  | cons x xs ih =>
    obtain ⟨rs, rfl⟩ := ih fun r hr => h r (List.mem_cons_of_mem _ hr)
    obtain ⟨r, rfl⟩ := fit_4 (h x (by simp))
    exact ⟨r :: rs, rfl⟩
abbrev I5 := Int × Int × Int × Int × Int
abbrev l5 : List LK := [iK, iK, iK, iK, iK]
abbrev z5 : I5 := (0, 0, 0, 0, 0)
/-- The cells of 5 integers. -/
def cs5 (r : I5) : List C := [.int .i64 r.1, .int .i64 r.2.1, .int .i64 r.2.2.1, .int .i64 r.2.2.2.1, .int .i64 r.2.2.2.2]
abbrev ag5 (a0 a1 a2 a3 a4 : Int) : A := .agg [.c (.int .i64 a0), .c (.int .i64 a1), .c (.int .i64 a2), .c (.int .i64 a3), .c (.int .i64 a4)]
def row5 (rs : List I5) : List (List C) := rs.map cs5
abbrev s5 (xs : List (List C)) : A := .c (.sl l5 xs)
abbrev kA5 : Bool × List LK := (true, l5)
abbrev kS5 : Bool × List LK := (false, [.sl l5])
theorem row5_len (rs : List I5) : (row5 rs).length = rs.length := by simp [row5]
theorem row5_append (a b : List I5) : row5 (a ++ b) = row5 a ++ row5 b := by simp [row5]
theorem row5_one (r : I5) : row5 [r] = [cs5 r] := rfl
theorem row5_cut (zs : List I5) (a b : Nat) : List.drop a (List.take b (row5 zs)) = row5 ((zs.take b).drop a) := by simp [row5, List.map_take, List.map_drop]
theorem row5_getD (rs : List I5) (i j : Nat) (hj : j < 5) : cellAt (row5 rs) i j = if i < rs.length then (cs5 (rs.getD i z5)).getD j .nil else .nil := by
  unfold cellAt row5
  by_cases h : i < rs.length
  · simp [List.getD, h]
  · simp [List.getD, h, Nat.le_of_not_lt h]
theorem row5_c0 (rs : List I5) (i : Nat) : (cellAt (row5 rs) i 0).gi = (rs.getD i z5).1 := by
  rw [row5_getD rs i 0 (by decide)]
  by_cases h : i < rs.length
  · rw [if_pos h]; rfl
  · rw [if_neg h]; simp [List.getD, Nat.le_of_not_lt h, C.gi]
theorem row5_c1 (rs : List I5) (i : Nat) : (cellAt (row5 rs) i 1).gi = (rs.getD i z5).2.1 := by
  rw [row5_getD rs i 1 (by decide)]
  by_cases h : i < rs.length
  · rw [if_pos h]; rfl
  · rw [if_neg h]; simp [List.getD, Nat.le_of_not_lt h, C.gi]
theorem row5_c2 (rs : List I5) (i : Nat) : (cellAt (row5 rs) i 2).gi = (rs.getD i z5).2.2.1 := by
  rw [row5_getD rs i 2 (by decide)]
  by_cases h : i < rs.length
  · rw [if_pos h]; rfl
  · rw [if_neg h]; simp [List.getD, Nat.le_of_not_lt h, C.gi]
theorem row5_c3 (rs : List I5) (i : Nat) : (cellAt (row5 rs) i 3).gi = (rs.getD i z5).2.2.2.1 := by
  rw [row5_getD rs i 3 (by decide)]
  by_cases h : i < rs.length
  · rw [if_pos h]; rfl
  · rw [if_neg h]; simp [List.getD, Nat.le_of_not_lt h, C.gi]
theorem row5_c4 (rs : List I5) (i : Nat) : (cellAt (row5 rs) i 4).gi = (rs.getD i z5).2.2.2.2 := by
  rw [row5_getD rs i 4 (by decide)]
  by_cases h : i < rs.length
  · rw [if_pos h]; rfl
  · rw [if_neg h]; simp [List.getD, Nat.le_of_not_lt h, C.gi]
theorem row5_set (rs : List I5) (k : Nat) (a0 a1 a2 a3 a4 : Int) : updC (updC (updC (updC (updC (row5 rs) k 4 (.int .i64 a4)) k 3 (.int .i64 a3)) k 2 (.int .i64 a2)) k 1 (.int .i64 a1)) k 0 (.int .i64 a0) = row5 (rs.set k (a0, a1, a2, a3, a4)) := by
  unfold updC row5
  by_cases h : k < rs.length
  · simp [List.getD, h, setC, List.map_set, cs5]
  · simp [List.set_eq_of_length_le, Nat.le_of_not_lt h]
theorem row5_set0 (rs : List I5) (k : Nat) (x : Int) : updC (row5 rs) k 0 (.int .i64 x) = row5 (rs.set k (x, (rs.getD k z5).2.1, (rs.getD k z5).2.2.1, (rs.getD k z5).2.2.2.1, (rs.getD k z5).2.2.2.2)) := by
  unfold updC row5
  by_cases h : k < rs.length
  · simp [List.getD, h, setC, List.map_set, cs5]
  · simp [List.set_eq_of_length_le, Nat.le_of_not_lt h]
theorem row5_set1 (rs : List I5) (k : Nat) (x : Int) : updC (row5 rs) k 1 (.int .i64 x) = row5 (rs.set k ((rs.getD k z5).1, x, (rs.getD k z5).2.2.1, (rs.getD k z5).2.2.2.1, (rs.getD k z5).2.2.2.2)) := by
  unfold updC row5
  by_cases h : k < rs.length
  · simp [List.getD, h, setC, List.map_set, cs5]
  · simp [List.set_eq_of_length_le, Nat.le_of_not_lt h]
theorem row5_set2 (rs : List I5) (k : Nat) (x : Int) : updC (row5 rs) k 2 (.int .i64 x) = row5 (rs.set k ((rs.getD k z5).1, (rs.getD k z5).2.1, x, (rs.getD k z5).2.2.2.1, (rs.getD k z5).2.2.2.2)) := by
  unfold updC row5
  by_cases h : k < rs.length
  · simp [List.getD, h, setC, List.map_set, cs5]
  · simp [List.set_eq_of_length_le, Nat.le_of_not_lt h]
theorem row5_set3 (rs : List I5) (k : Nat) (x : Int) : updC (row5 rs) k 3 (.int .i64 x) = row5 (rs.set k ((rs.getD k z5).1, (rs.getD k z5).2.1, (rs.getD k z5).2.2.1, x, (rs.getD k z5).2.2.2.2)) := by
  unfold updC row5
  by_cases h : k < rs.length
  · simp [List.getD, h, setC, List.map_set, cs5]
  · simp [List.set_eq_of_length_le, Nat.le_of_not_lt h]
theorem row5_set4 (rs : List I5) (k : Nat) (x : Int) : updC (row5 rs) k 4 (.int .i64 x) = row5 (rs.set k ((rs.getD k z5).1, (rs.getD k z5).2.1, (rs.getD k z5).2.2.1, (rs.getD k z5).2.2.2.1, x)) := by
  unfold updC row5
  by_cases h : k < rs.length
  · simp [List.getD, h, setC, List.map_set, cs5]
  · simp [List.set_eq_of_length_le, Nat.le_of_not_lt h]
def un5 (xs : List (List C)) : List I5 := xs.map fun r => ((r.getD 0 .nil).gi, (r.getD 1 .nil).gi, (r.getD 2 .nil).gi, (r.getD 3 .nil).gi, (r.getD 4 .nil).gi)
theorem un5_row (rs : List I5) : un5 (row5 rs) = rs := by
  simp only [un5, row5, List.map_map]
  exact (List.map_congr_left fun z _ => rfl).trans (List.map_id rs)
theorem fit_5 {row : List C} (h : FitR l5 row) : ∃ r : I5, row = cs5 r := by
  match row, h with
  | [.int k0 a0, .int k1 a1, .int k2 a2, .int k3 a3, .int k4 a4], h =>
    simp only [FitR, FitC] at h
    obtain ⟨⟨rfl, _⟩, ⟨rfl, _⟩, ⟨rfl, _⟩, ⟨rfl, _⟩, ⟨rfl, _⟩, _⟩ := h
    exact ⟨(a0, a1, a2, a3, a4), rfl⟩
theorem rows_5 {xs : List (List C)} (h : ∀ r ∈ xs, FitR l5 r) : ∃ rs : List I5, xs = row5 rs := by
  induction xs with
  | nil => exact ⟨[], rfl⟩
  | cons x xs ih =>
    obtain ⟨rs, rfl⟩ := ih fun r hr => h r (List.mem_cons_of_mem _ hr)
    obtain ⟨r, rfl⟩ := fit_5 (h x (by simp))
    exact ⟨r :: rs, rfl⟩
abbrev I6 := Int × Int × Int × Int × Int × Int
abbrev l6 : List LK := [iK, iK, iK, iK, iK, iK]
abbrev z6 : I6 := (0, 0, 0, 0, 0, 0)
/-- The cells of 6 integers. -/
def cs6 (r : I6) : List C := [.int .i64 r.1, .int .i64 r.2.1, .int .i64 r.2.2.1, .int .i64 r.2.2.2.1, .int .i64 r.2.2.2.2.1, .int .i64 r.2.2.2.2.2]
abbrev ag6 (a0 a1 a2 a3 a4 a5 : Int) : A := .agg [.c (.int .i64 a0), .c (.int .i64 a1), .c (.int .i64 a2), .c (.int .i64 a3), .c (.int .i64 a4), .c (.int .i64 a5)]
def row6 (rs : List I6) : List (List C) := rs.map cs6
abbrev s6 (xs : List (List C)) : A := .c (.sl l6 xs)
abbrev kA6 : Bool × List LK := (true, l6)
abbrev kS6 : Bool × List LK := (false, [.sl l6])
theorem row6_len (rs : List I6) : (row6 rs).length = rs.length := by simp [row6]
theorem row6_append (a b : List I6) : row6 (a ++ b) = row6 a ++ row6 b := by simp [row6]
theorem row6_one (r : I6) : row6 [r] = [cs6 r] := rfl
theorem row6_cut (zs : List I6) (a b : Nat) : List.drop a (List.take b (row6 zs)) = row6 ((zs.take b).drop a) := by simp [row6, List.map_take, List.map_drop]
theorem row6_getD (rs : List I6) (i j : Nat) (hj : j < 6) : cellAt (row6 rs) i j = if i < rs.length then (cs6 (rs.getD i z6)).getD j .nil else .nil := by
  unfold cellAt row6
  by_cases h : i < rs.length
  · simp [List.getD, h]
  · simp [List.getD, h, Nat.le_of_not_lt h]
theorem row6_c0 (rs : List I6) (i : Nat) : (cellAt (row6 rs) i 0).gi = (rs.getD i z6).1 := by
  rw [row6_getD rs i 0 (by decide)]
  by_cases h : i < rs.length
  · rw [if_pos h]; rfl
  · rw [if_neg h]; simp [List.getD, Nat.le_of_not_lt h, C.gi]
theorem row6_c1 (rs : List I6) (i : Nat) : (cellAt (row6 rs) i 1).gi = (rs.getD i z6).2.1 := by
  rw [row6_getD rs i 1 (by decide)]
  by_cases h : i < rs.length
  · rw [if_pos h]; rfl
  · rw [if_neg h]; simp [List.getD, Nat.le_of_not_lt h, C.gi]
theorem row6_c2 (rs : List I6) (i : Nat) : (cellAt (row6 rs) i 2).gi = (rs.getD i z6).2.2.1 := by
  rw [row6_getD rs i 2 (by decide)]
  by_cases h : i < rs.length
  · rw [if_pos h]; rfl
  · rw [if_neg h]; simp [List.getD, Nat.le_of_not_lt h, C.gi]
theorem row6_c3 (rs : List I6) (i : Nat) : (cellAt (row6 rs) i 3).gi = (rs.getD i z6).2.2.2.1 := by
  rw [row6_getD rs i 3 (by decide)]
  by_cases h : i < rs.length
  · rw [if_pos h]; rfl
  · rw [if_neg h]; simp [List.getD, Nat.le_of_not_lt h, C.gi]
theorem row6_c4 (rs : List I6) (i : Nat) : (cellAt (row6 rs) i 4).gi = (rs.getD i z6).2.2.2.2.1 := by
  rw [row6_getD rs i 4 (by decide)]
  by_cases h : i < rs.length
  · rw [if_pos h]; rfl
  · rw [if_neg h]; simp [List.getD, Nat.le_of_not_lt h, C.gi]
theorem row6_c5 (rs : List I6) (i : Nat) : (cellAt (row6 rs) i 5).gi = (rs.getD i z6).2.2.2.2.2 := by
  rw [row6_getD rs i 5 (by decide)]
  by_cases h : i < rs.length
  · rw [if_pos h]; rfl
  · rw [if_neg h]; simp [List.getD, Nat.le_of_not_lt h, C.gi]
theorem row6_set (rs : List I6) (k : Nat) (a0 a1 a2 a3 a4 a5 : Int) : updC (updC (updC (updC (updC (updC (row6 rs) k 5 (.int .i64 a5)) k 4 (.int .i64 a4)) k 3 (.int .i64 a3)) k 2 (.int .i64 a2)) k 1 (.int .i64 a1)) k 0 (.int .i64 a0) = row6 (rs.set k (a0, a1, a2, a3, a4, a5)) := by
  unfold updC row6
  by_cases h : k < rs.length
  · simp [List.getD, h, setC, List.map_set, cs6]
  · simp [List.set_eq_of_length_le, Nat.le_of_not_lt h]
theorem row6_set0 (rs : List I6) (k : Nat) (x : Int) : updC (row6 rs) k 0 (.int .i64 x) = row6 (rs.set k (x, (rs.getD k z6).2.1, (rs.getD k z6).2.2.1, (rs.getD k z6).2.2.2.1, (rs.getD k z6).2.2.2.2.1, (rs.getD k z6).2.2.2.2.2)) := by
  unfold updC row6
  by_cases h : k < rs.length
  · simp [List.getD, h, setC, List.map_set, cs6]
  · simp [List.set_eq_of_length_le, Nat.le_of_not_lt h]
theorem row6_set1 (rs : List I6) (k : Nat) (x : Int) : updC (row6 rs) k 1 (.int .i64 x) = row6 (rs.set k ((rs.getD k z6).1, x, (rs.getD k z6).2.2.1, (rs.getD k z6).2.2.2.1, (rs.getD k z6).2.2.2.2.1, (rs.getD k z6).2.2.2.2.2)) := by
  unfold updC row6
  by_cases h : k < rs.length
  · simp [List.getD, h, setC, List.map_set, cs6]
  · simp [List.set_eq_of_length_le, Nat.le_of_not_lt h]
theorem row6_set2 (rs : List I6) (k : Nat) (x : Int) : updC (row6 rs) k 2 (.int .i64 x) = row6 (rs.set k ((rs.getD k z6).1, (rs.getD k z6).2.1, x, (rs.getD k z6).2.2.2.1, (rs.getD k z6).2.2.2.2.1, (rs.getD k z6).2.2.2.2.2)) := by
  unfold updC row6
  by_cases h : k < rs.length
  · simp [List.getD, h, setC, List.map_set, cs6]
  · simp [List.set_eq_of_length_le, Nat.le_of_not_lt h]
theorem row6_set3 (rs : List I6) (k : Nat) (x : Int) : updC (row6 rs) k 3 (.int .i64 x) = row6 (rs.set k ((rs.getD k z6).1, (rs.getD k z6).2.1, (rs.getD k z6).2.2.1, x, (rs.getD k z6).2.2.2.2.1, (rs.getD k z6).2.2.2.2.2)) := by
  unfold updC row6
  by_cases h : k < rs.length
  · simp [List.getD, h, setC, List.map_set, cs6]
  · simp [List.set_eq_of_length_le, Nat.le_of_not_lt h]
theorem row6_set4 (rs : List I6) (k : Nat) (x : Int) : updC (row6 rs) k 4 (.int .i64 x) = row6 (rs.set k ((rs.getD k z6).1, (rs.getD k z6).2.1, (rs.getD k z6).2.2.1, (rs.getD k z6).2.2.2.1, x, (rs.getD k z6).2.2.2.2.2)) := by
  unfold updC row6
  by_cases h : k < rs.length
  · simp [List.getD, h, setC, List.map_set, cs6]
  · simp [List.set_eq_of_length_le, Nat.le_of_not_lt h]
theorem row6_set5 (rs : List I6) (k : Nat) (x : Int) : updC (row6 rs) k 5 (.int .i64 x) = row6 (rs.set k ((rs.getD k z6).1, (rs.getD k z6).2.1, (rs.getD k z6).2.2.1, (rs.getD k z6).2.2.2.1, (rs.getD k z6).2.2.2.2.1, x)) := by
  unfold updC row6
  by_cases h : k < rs.length
  · simp [List.getD, h, setC, List.map_set, cs6]
  · simp [List.set_eq_of_length_le, Nat.le_of_not_lt h]
def un6 (xs : List (List C)) : List I6 := xs.map fun r => ((r.getD 0 .nil).gi, (r.getD 1 .nil).gi, (r.getD 2 .nil).gi, (r.getD 3 .nil).gi, (r.getD 4 .nil).gi, (r.getD 5 .nil).gi)
theorem un6_row (rs : List I6) : un6 (row6 rs) = rs := by
  simp only [un6, row6, List.map_map]
  exact (List.map_congr_left fun z _ => rfl).trans (List.map_id rs)
theorem fit_6 {row : List C} (h : FitR l6 row) : ∃ r : I6, row = cs6 r := by
  match row, h with
  | [.int k0 a0, .int k1 a1, .int k2 a2, .int k3 a3, .int k4 a4, .int k5 a5], h =>
    simp only [FitR, FitC] at h
    obtain ⟨⟨rfl, _⟩, ⟨rfl, _⟩, ⟨rfl, _⟩, ⟨rfl, _⟩, ⟨rfl, _⟩, ⟨rfl, _⟩, _⟩ := h
    exact ⟨(a0, a1, a2, a3, a4, a5), rfl⟩
theorem rows_6 {xs : List (List C)} (h : ∀ r ∈ xs, FitR l6 r) : ∃ rs : List I6, xs = row6 rs := by
  induction xs with
  | nil => exact ⟨[], rfl⟩
  | cons x xs ih =>
    obtain ⟨rs, rfl⟩ := ih fun r hr => h r (List.mem_cons_of_mem _ hr)
    obtain ⟨r, rfl⟩ := fit_6 (h x (by simp))
    exact ⟨r :: rs, rfl⟩
abbrev I7 := Int × Int × Int × Int × Int × Int × Int
abbrev l7 : List LK := [iK, iK, iK, iK, iK, iK, iK]
abbrev z7 : I7 := (0, 0, 0, 0, 0, 0, 0)
/-- The cells of 7 integers. -/
def cs7 (r : I7) : List C := [.int .i64 r.1, .int .i64 r.2.1, .int .i64 r.2.2.1, .int .i64 r.2.2.2.1, .int .i64 r.2.2.2.2.1, .int .i64 r.2.2.2.2.2.1, .int .i64 r.2.2.2.2.2.2]
abbrev ag7 (a0 a1 a2 a3 a4 a5 a6 : Int) : A := .agg [.c (.int .i64 a0), .c (.int .i64 a1), .c (.int .i64 a2), .c (.int .i64 a3), .c (.int .i64 a4), .c (.int .i64 a5), .c (.int .i64 a6)]
def row7 (rs : List I7) : List (List C) := rs.map cs7
abbrev s7 (xs : List (List C)) : A := .c (.sl l7 xs)
abbrev kA7 : Bool × List LK := (true, l7)
abbrev kS7 : Bool × List LK := (false, [.sl l7])
theorem row7_len (rs : List I7) : (row7 rs).length = rs.length := by simp [row7]
theorem row7_append (a b : List I7) : row7 (a ++ b) = row7 a ++ row7 b := by simp [row7]
theorem row7_one (r : I7) : row7 [r] = [cs7 r] := rfl
theorem row7_cut (zs : List I7) (a b : Nat) : List.drop a (List.take b (row7 zs)) = row7 ((zs.take b).drop a) := by simp [row7, List.map_take, List.map_drop]
theorem row7_getD (rs : List I7) (i j : Nat) (hj : j < 7) : cellAt (row7 rs) i j = if i < rs.length then (cs7 (rs.getD i z7)).getD j .nil else .nil := by
  unfold cellAt row7
  by_cases h : i < rs.length
  · simp [List.getD, h]
  · simp [List.getD, h, Nat.le_of_not_lt h]
theorem row7_c0 (rs : List I7) (i : Nat) : (cellAt (row7 rs) i 0).gi = (rs.getD i z7).1 := by
  rw [row7_getD rs i 0 (by decide)]
  by_cases h : i < rs.length
  · rw [if_pos h]; rfl
  · rw [if_neg h]; simp [List.getD, Nat.le_of_not_lt h, C.gi]
theorem row7_c1 (rs : List I7) (i : Nat) : (cellAt (row7 rs) i 1).gi = (rs.getD i z7).2.1 := by
  rw [row7_getD rs i 1 (by decide)]
  by_cases h : i < rs.length
  · rw [if_pos h]; rfl
  · rw [if_neg h]; simp [List.getD, Nat.le_of_not_lt h, C.gi]
theorem row7_c2 (rs : List I7) (i : Nat) : (cellAt (row7 rs) i 2).gi = (rs.getD i z7).2.2.1 := by
  rw [row7_getD rs i 2 (by decide)]
  by_cases h : i < rs.length
  · rw [if_pos h]; rfl
  · rw [if_neg h]; simp [List.getD, Nat.le_of_not_lt h, C.gi]
theorem row7_c3 (rs : List I7) (i : Nat) : (cellAt (row7 rs) i 3).gi = (rs.getD i z7).2.2.2.1 := by
  rw [row7_getD rs i 3 (by decide)]
  by_cases h : i < rs.length
  · rw [if_pos h]; rfl
  · rw [if_neg h]; simp [List.getD, Nat.le_of_not_lt h, C.gi]
theorem row7_c4 (rs : List I7) (i : Nat) : (cellAt (row7 rs) i 4).gi = (rs.getD i z7).2.2.2.2.1 := by
  rw [row7_getD rs i 4 (by decide)]
  by_cases h : i < rs.length
  · rw [if_pos h]; rfl
  · rw [if_neg h]; simp [List.getD, Nat.le_of_not_lt h, C.gi]
theorem row7_c5 (rs : List I7) (i : Nat) : (cellAt (row7 rs) i 5).gi = (rs.getD i z7).2.2.2.2.2.1 := by
  rw [row7_getD rs i 5 (by decide)]
  by_cases h : i < rs.length
  · rw [if_pos h]; rfl
  · rw [if_neg h]; simp [List.getD, Nat.le_of_not_lt h, C.gi]
theorem row7_c6 (rs : List I7) (i : Nat) : (cellAt (row7 rs) i 6).gi = (rs.getD i z7).2.2.2.2.2.2 := by
  rw [row7_getD rs i 6 (by decide)]
  by_cases h : i < rs.length
  · rw [if_pos h]; rfl
  · rw [if_neg h]; simp [List.getD, Nat.le_of_not_lt h, C.gi]
theorem row7_set (rs : List I7) (k : Nat) (a0 a1 a2 a3 a4 a5 a6 : Int) : updC (updC (updC (updC (updC (updC (updC (row7 rs) k 6 (.int .i64 a6)) k 5 (.int .i64 a5)) k 4 (.int .i64 a4)) k 3 (.int .i64 a3)) k 2 (.int .i64 a2)) k 1 (.int .i64 a1)) k 0 (.int .i64 a0) = row7 (rs.set k (a0, a1, a2, a3, a4, a5, a6)) := by
  unfold updC row7
  by_cases h : k < rs.length
  · simp [List.getD, h, setC, List.map_set, cs7]
  · simp [List.set_eq_of_length_le, Nat.le_of_not_lt h]
theorem row7_set0 (rs : List I7) (k : Nat) (x : Int) : updC (row7 rs) k 0 (.int .i64 x) = row7 (rs.set k (x, (rs.getD k z7).2.1, (rs.getD k z7).2.2.1, (rs.getD k z7).2.2.2.1, (rs.getD k z7).2.2.2.2.1, (rs.getD k z7).2.2.2.2.2.1, (rs.getD k z7).2.2.2.2.2.2)) := by
  unfold updC row7
  by_cases h : k < rs.length
  · simp [List.getD, h, setC, List.map_set, cs7]
  · simp [List.set_eq_of_length_le, Nat.le_of_not_lt h]
theorem row7_set1 (rs : List I7) (k : Nat) (x : Int) : updC (row7 rs) k 1 (.int .i64 x) = row7 (rs.set k ((rs.getD k z7).1, x, (rs.getD k z7).2.2.1, (rs.getD k z7).2.2.2.1, (rs.getD k z7).2.2.2.2.1, (rs.getD k z7).2.2.2.2.2.1, (rs.getD k z7).2.2.2.2.2.2)) := by
  unfold updC row7
  by_cases h : k < rs.length
  · simp [List.getD, h, setC, List.map_set, cs7]
  · simp [List.set_eq_of_length_le, Nat.le_of_not_lt h]
theorem row7_set2 (rs : List I7) (k : Nat) (x : Int) : updC (row7 rs) k 2 (.int .i64 x) = row7 (rs.set k ((rs.getD k z7).1, (rs.getD k z7).2.1, x, (rs.getD k z7).2.2.2.1, (rs.getD k z7).2.2.2.2.1, (rs.getD k z7).2.2.2.2.2.1, (rs.getD k z7).2.2.2.2.2.2)) := by
  unfold updC row7
  by_cases h : k < rs.length
  · simp [List.getD, h, setC, List.map_set, cs7]
  · simp [List.set_eq_of_length_le, Nat.le_of_not_lt h]
theorem row7_set3 (rs : List I7) (k : Nat) (x : Int) : updC (row7 rs) k 3 (.int .i64 x) = row7 (rs.set k ((rs.getD k z7).1, (rs.getD k z7).2.1, (rs.getD k z7).2.2.1, x, (rs.getD k z7).2.2.2.2.1, (rs.getD k z7).2.2.2.2.2.1, (rs.getD k z7).2.2.2.2.2.2)) := by
  unfold updC row7
  by_cases h : k < rs.length
  · simp [List.getD, h, setC, List.map_set, cs7]
  · simp [List.set_eq_of_length_le, Nat.le_of_not_lt h]
theorem row7_set4 (rs : List I7) (k : Nat) (x : Int) : updC (row7 rs) k 4 (.int .i64 x) = row7 (rs.set k ((rs.getD k z7).1, (rs.getD k z7).2.1, (rs.getD k z7).2.2.1, (rs.getD k z7).2.2.2.1, x, (rs.getD k z7).2.2.2.2.2.1, (rs.getD k z7).2.2.2.2.2.2)) := by
  unfold updC row7
  by_cases h : k < rs.length
  · simp [List.getD, h, setC, List.map_set, cs7]
  · simp [List.set_eq_of_length_le, Nat.le_of_not_lt h]
theorem row7_set5 (rs : List I7) (k : Nat) (x : Int) : updC (row7 rs) k 5 (.int .i64 x) = row7 (rs.set k ((rs.getD k z7).1, (rs.getD k z7).2.1, (rs.getD k z7).2.2.1, (rs.getD k z7).2.2.2.1, (rs.getD k z7).2.2.2.2.1, x, (rs.getD k z7).2.2.2.2.2.2)) := by
  unfold updC row7
  by_cases h : k < rs.length
  · simp [List.getD, h, setC, List.map_set, cs7]
  · simp [List.set_eq_of_length_le, Nat.le_of_not_lt h]
theorem row7_set6 (rs : List I7) (k : Nat) (x : Int) : updC (row7 rs) k 6 (.int .i64 x) = row7 (rs.set k ((rs.getD k z7).1, (rs.getD k z7).2.1, (rs.getD k z7).2.2.1, (rs.getD k z7).2.2.2.1, (rs.getD k z7).2.2.2.2.1, (rs.getD k z7).2.2.2.2.2.1, x)) := by
  unfold updC row7
  by_cases h : k < rs.length
  · simp [List.getD, h, setC, List.map_set, cs7]
  · simp [List.set_eq_of_length_le, Nat.le_of_not_lt h]
def un7 (xs : List (List C)) : List I7 := xs.map fun r => ((r.getD 0 .nil).gi, (r.getD 1 .nil).gi, (r.getD 2 .nil).gi, (r.getD 3 .nil).gi, (r.getD 4 .nil).gi, (r.getD 5 .nil).gi, (r.getD 6 .nil).gi)
theorem un7_row (rs : List I7) : un7 (row7 rs) = rs := by
  simp only [un7, row7, List.map_map]
  exact (List.map_congr_left fun z _ => rfl).trans (List.map_id rs)
theorem fit_7 {row : List C} (h : FitR l7 row) : ∃ r : I7, row = cs7 r := by
  match row, h with
  | [.int k0 a0, .int k1 a1, .int k2 a2, .int k3 a3, .int k4 a4, .int k5 a5, .int k6 a6], h =>
    simp only [FitR, FitC] at h
    obtain ⟨⟨rfl, _⟩, ⟨rfl, _⟩, ⟨rfl, _⟩, ⟨rfl, _⟩, ⟨rfl, _⟩, ⟨rfl, _⟩, ⟨rfl, _⟩, _⟩ := h
    exact ⟨(a0, a1, a2, a3, a4, a5, a6), rfl⟩
theorem rows_7 {xs : List (List C)} (h : ∀ r ∈ xs, FitR l7 r) : ∃ rs : List I7, xs = row7 rs := by
  induction xs with
  | nil => exact ⟨[], rfl⟩
  | cons x xs ih =>
    obtain ⟨rs, rfl⟩ := ih fun r hr => h r (List.mem_cons_of_mem _ hr)
    obtain ⟨r, rfl⟩ := fit_7 (h x (by simp))
    exact ⟨r :: rs, rfl⟩
theorem fit_sl {lay : List LK} {row : List C} (h : FitR [.sl lay] row) : ∃ xs, row = [.sl lay xs] ∧ xs.length ≤ 9223372036854775807 ∧ ∀ r ∈ xs, FitR lay r := by
  match row, h with
  | [.sl l xs], h =>
    simp only [FitR, FitC] at h
    obtain ⟨⟨rfl, h1, h2⟩, _⟩ := h
    exact ⟨xs, rfl, Nat.le_trans h1 (by decide), h2⟩
theorem fit_int {k : IntKind} {row : List C} (h : FitR [.int k] row) : ∃ n, row = [.int k n] ∧ k.min ≤ n ∧ n ≤ k.max := by
  match row, h with
  | [.int k' n], h =>
    simp only [FitR, FitC] at h
    obtain ⟨⟨rfl, h1, h2⟩, _⟩ := h
    exact ⟨n, rfl, h1, h2⟩
end Go.Eng

/- An abstract machine over plain data, part ZJ: arrays told as data. -/
namespace Go.Eng
open Go.RowKit
section
variable {n0 : Nat} {s : St}
/-- An array that a temporary holds, as data. -/
theorem GSt.frzGr (t id : Nat) {T : TypeId} {lay : List LK} {xs : List (List C)} (ht : s.T[t]? = some (.gr id)) (ho : s.H[id]? = some (.arr T lay xs)) :
    GSt n0 s ⟨s.T.set t (.c (.sl lay xs)), s.H.set id (.frz lay xs)⟩ := by
  intro w0 G0 G a w hS
  obtain ⟨G', hH, hLe, hal⟩ := hS.hr.freeze ho
  have hid' : (s.H.set id (.frz lay xs))[id]? = some (.frz lay xs) := by rw [List.getElem?_set_self (lt_of_get ho)]
  refine ⟨G', by simp [hS.size], fun j h1 h2 => ?_, hH, hS.df, hS.le.trans hLe, hS.al0, fun i hi => hS.fr i (by rw [← hal]; exact hi), by simp; exact hS.n0⟩
  simp at h1
  have hv := (hS.val j h1 h2).mono hLe
  show VR _ ((s.T.set t (.c (.sl lay xs)))[j]'(by simpa using h1)) _
  rw [List.getElem_set]
  split
  · rename_i hj
    subst hj
    have e3 : s.T[t] = .gr id := by rw [List.getElem?_eq_getElem h1] at ht; exact Option.some.inj ht
    rw [e3] at hv
    exact gr_data hH hid' hv
  · exact hv
end
/-- A nil slice in a variable, as data without elements. -/
theorem GSt.nilBoxSl {n0 : Nat} {s : St} (b j : Nat) (lay : List LK) {Tb : TypeId} {cs : List A} (hb : s.H[b]? = some (.box Tb cs)) (hj : cs[j]? = some (.c .nil)) :
    GSt n0 s ⟨s.T, s.H.set b (.box Tb (cs.set j (.c (.sl lay []))))⟩ := by
  intro w0 G0 G a w hS
  obtain ⟨o1, o2, o3, o4, vs, o5, o6, o7⟩ := hS.hr.obj b _ hb
  have hH2 := hS.hr.update hb rfl o2 (.box Tb (cs.set j (.c (.sl lay [])))) rfl (fun _ _ => rfl) rfl rfl rfl ⟨o1, o2, o3, by simpa using o4, vs, o5, by simpa using o6, fun i h1 h2 => by
    have h1' : i < cs.length := by simpa using h1
    refine ⟨?_, (o7 i h1' h2).2⟩
    rw [List.getElem_set]
    split
    · rename_i hij
      subst hij
      have e3 : cs[j] = .c .nil := by rw [List.getElem?_eq_getElem h1'] at hj; exact Option.some.inj hj
      have h3 := (o7 j h1' h2).1
      rw [e3] at h3
      exact h3.nilSl lay
    · exact (o7 i h1' h2).1⟩
  exact ⟨G, hS.size, hS.val, hH2, hS.df, hS.le, hS.al0, hS.fr, by simp; exact hS.n0⟩
/-- What a call hands back may be told otherwise. -/
theorem ACalls.retell {P : Program} {f : FuncId} {xs : List A} {H : List O} {Q Q' : A → List O → Prop} (hq : ∀ r H', Q r H' → Fin H.length Q' r H') (h : ACalls P f xs H Q) : ACalls P f xs H Q' :=
  fun w0 w G vs h1 h2 h3 => (h w0 w G vs h1 h2 h3).mono fun e w' ⟨r, v, G', H', e1, e2, e3, e4, e5, e6, e7⟩ => by
    obtain ⟨r', H'', hf, hq'⟩ := hq _ _ e7
    obtain ⟨G'', g1, g2, g3, g4, g5⟩ := hf w0 G G' w' v e2 e3 h1.lt e4 e5 e6
    exact ⟨r', v, G'', H'', e1, g1, g2, g3, g4, g5, hq'⟩
/-- A part of an array that is handed back, as data. -/
theorem ACalls.ownData {P : Program} {f : FuncId} {al : List A} {H : List O} {T : TypeId} {lay : List LK} {K : List (List C) → Int → Prop} (k : Nat) (hk : k = H.length)
    (h : ACalls P f al H fun r H' => ∃ l n, K l n ∧ r = .own k 0 n ∧ H' = H ++ [.arr T lay l]) :
    ACalls P f al H fun r H' => ∃ l n, K l n ∧ r = .c (.sl lay (l.take n.toNat)) ∧ H' = H ++ [.frz lay l] := by
  subst hk
  refine h.retell fun r H' ⟨l, n, hK, hr, hH⟩ => ?_
  subst hr hH
  refine ⟨_, _, GFin.of ?_, l, n, hK, rfl, rfl⟩
  have e := GSt.frz (n0 := H.length) (s := (⟨[.own H.length 0 n], H ++ [.arr T lay l]⟩ : St)) [.own H.length 0 n]
  have ef : putW (H ++ [.arr T lay l]) (frzL (H ++ [.arr T lay l]) [.own H.length 0 n]) = H ++ [.frz lay l] := by
    simp [frzL, frzA, frz1, putW]
  simp only [ef] at e
  have ed : datT (H ++ [.frz lay l]) (.own H.length 0 n) = .c (.sl lay (l.take n.toNat)) := by
    simp [datT, dat, E0, stdE, baseE]
  simpa [ed] using e
/-! ### Loops over maps -/
theorem rngRnd_mono2 {P : Program} {E : Env} {n0 : Nat} {h : RHdr} {kk : IntKind} {row : Bool} {lay : List LK} {x : RCode} {R : Exit → St → Prop} (e : Int × List C) (K K' : St → Prop) (s : St) (hK : ∀ s, K s → K' s)
    (hw : rngRnd P E h kk row lay (x.wp P E n0) R e K s) : rngRnd P E h kk row lay (x.wp P E n0) R e K' s := rngRnd_mono (fun R R' s => RCode.wp_mono x R R' s) (fun _ _ h => h) hK hw
theorem RngW.inv {n0 : Nat} {hd : St → Prop} {rnd : Int × List C → (St → Prop) → St → Prop} {fin : St → Prop} (hm : ∀ e K K' s, (∀ s, K s → K' s) → rnd e K s → rnd e K' s) {es : List (Int × List C)} {s : St} {α : Type} (I : α → St) (ok : List (Int × List C) → α → Prop) (x0 : α)
    (h0 : ok es x0) (g0 : GSt n0 s (I x0)) (hh : ∀ x, hd (I x)) (hf : ∀ x, ok [] x → fin (I x)) (hr : ∀ left x, ok left x → ∀ i (hi : i < left.length), rnd left[i] (fun s' => ∃ y, ok (left.eraseIdx i) y ∧ GSt n0 s' (I y)) (I x)) : RngW n0 hd rnd fin es s := by
  have key : ∀ k left x s, left.length < k → ok left x → GSt n0 s (I x) → RngN n0 hd rnd fin k left s := by
    intro k
    induction k with
    | zero => intro left x s h; omega
    | succ k ih =>
      intro left x s hk hx hg
      refine ⟨I x, hg, hh x, fun e => hf x (e ▸ hx), fun i hi => hm _ _ _ _ (fun s' ⟨y, hy, hgy⟩ => ih _ y s' ?_ hy hgy) (hr left x hx i hi)⟩
      rw [List.length_eraseIdx]
      split <;> omega
  exact ⟨es.length + 1, key _ es x0 s (Nat.lt_succ_self _) h0 g0⟩
/-- A nil map that a temporary holds, as data. -/
theorem GSt.nilMp {n0 : Nat} {s : St} (t : Nat) (kk : IntKind) (row : Bool) (lay : List LK) (hl : (row || Nat.beq lay.length 1) = true) (ht : s.T[t]? = some .nm) : GSt n0 s ⟨s.T.set t (.c (.mp kk row lay [])), s.H⟩ := by
  intro w0 G0 G a w hS
  refine ⟨G, by simp [hS.size], fun j h1 h2 => ?_, hS.hr, hS.df, hS.le, hS.al0, hS.fr, hS.n0⟩
  simp at h1
  have hv := hS.val j h1 h2
  show VR _ ((s.T.set t (.c (.mp kk row lay [])))[j]'(by simpa using h1)) _
  rw [List.getElem_set]
  split
  · rename_i hj
    subst hj
    have e3 : s.T[t] = .nm := by rw [List.getElem?_eq_getElem h1] at ht; exact Option.some.inj ht
    rw [e3] at hv
    have h4 : asC (.mp kk row lay) .nm = some (.mp kk row lay []) := by simp only [asC, hl, if_true]
    exact .c (asC_CR h4 hv rfl)
  · exact hv
/-- A loop over a map with 1 variables. -/
inductive RngP1 {α1 : Type} (es : List (Int × List C)) (b : Int → List C → α1 → (α1 → Prop) → Prop) (f : α1 → Prop) (x1 : α1) : Prop where
  | mk (I : List (Int × List C) → α1 → Prop) (h0 : I es x1) (hf : ∀ x1, I [] x1 → f x1) (h : ∀ left x1, I left x1 → ∀ i (hi : i < left.length), b left[i].1 left[i].2 x1 fun y1 => I (left.eraseIdx i) y1)
/-- A loop over a map with 2 variables. -/
inductive RngP2 {α1 : Type} {α2 : Type} (es : List (Int × List C)) (b : Int → List C → α1 → α2 → (α1 → α2 → Prop) → Prop) (f : α1 → α2 → Prop) (x1 : α1) (x2 : α2) : Prop where
  | mk (I : List (Int × List C) → α1 → α2 → Prop) (h0 : I es x1 x2) (hf : ∀ x1 x2, I [] x1 x2 → f x1 x2) (h : ∀ left x1 x2, I left x1 x2 → ∀ i (hi : i < left.length), b left[i].1 left[i].2 x1 x2 fun y1 y2 => I (left.eraseIdx i) y1 y2)
/-- A loop over a map with 3 variables. -/
inductive RngP3 {α1 : Type} {α2 : Type} {α3 : Type} (es : List (Int × List C)) (b : Int → List C → α1 → α2 → α3 → (α1 → α2 → α3 → Prop) → Prop) (f : α1 → α2 → α3 → Prop) (x1 : α1) (x2 : α2) (x3 : α3) : Prop where
  | mk (I : List (Int × List C) → α1 → α2 → α3 → Prop) (h0 : I es x1 x2 x3) (hf : ∀ x1 x2 x3, I [] x1 x2 x3 → f x1 x2 x3) (h : ∀ left x1 x2 x3, I left x1 x2 x3 → ∀ i (hi : i < left.length), b left[i].1 left[i].2 x1 x2 x3 fun y1 y2 y3 => I (left.eraseIdx i) y1 y2 y3)
/-- A loop over a map with 4 variables. -/
inductive RngP4 {α1 : Type} {α2 : Type} {α3 : Type} {α4 : Type} (es : List (Int × List C)) (b : Int → List C → α1 → α2 → α3 → α4 → (α1 → α2 → α3 → α4 → Prop) → Prop) (f : α1 → α2 → α3 → α4 → Prop) (x1 : α1) (x2 : α2) (x3 : α3) (x4 : α4) : Prop where
  | mk (I : List (Int × List C) → α1 → α2 → α3 → α4 → Prop) (h0 : I es x1 x2 x3 x4) (hf : ∀ x1 x2 x3 x4, I [] x1 x2 x3 x4 → f x1 x2 x3 x4) (h : ∀ left x1 x2 x3 x4, I left x1 x2 x3 x4 → ∀ i (hi : i < left.length), b left[i].1 left[i].2 x1 x2 x3 x4 fun y1 y2 y3 y4 => I (left.eraseIdx i) y1 y2 y3 y4)
/-- A loop over a map with 5 variables. -/
inductive RngP5 {α1 : Type} {α2 : Type} {α3 : Type} {α4 : Type} {α5 : Type} (es : List (Int × List C)) (b : Int → List C → α1 → α2 → α3 → α4 → α5 → (α1 → α2 → α3 → α4 → α5 → Prop) → Prop) (f : α1 → α2 → α3 → α4 → α5 → Prop) (x1 : α1) (x2 : α2) (x3 : α3) (x4 : α4) (x5 : α5) : Prop where
  | mk (I : List (Int × List C) → α1 → α2 → α3 → α4 → α5 → Prop) (h0 : I es x1 x2 x3 x4 x5) (hf : ∀ x1 x2 x3 x4 x5, I [] x1 x2 x3 x4 x5 → f x1 x2 x3 x4 x5) (h : ∀ left x1 x2 x3 x4 x5, I left x1 x2 x3 x4 x5 → ∀ i (hi : i < left.length), b left[i].1 left[i].2 x1 x2 x3 x4 x5 fun y1 y2 y3 y4 y5 => I (left.eraseIdx i) y1 y2 y3 y4 y5)
/-- A loop over a map with 6 variables. -/
inductive RngP6 {α1 : Type} {α2 : Type} {α3 : Type} {α4 : Type} {α5 : Type} {α6 : Type} (es : List (Int × List C)) (b : Int → List C → α1 → α2 → α3 → α4 → α5 → α6 → (α1 → α2 → α3 → α4 → α5 → α6 → Prop) → Prop) (f : α1 → α2 → α3 → α4 → α5 → α6 → Prop) (x1 : α1) (x2 : α2) (x3 : α3) (x4 : α4) (x5 : α5) (x6 : α6) : Prop where
  | mk (I : List (Int × List C) → α1 → α2 → α3 → α4 → α5 → α6 → Prop) (h0 : I es x1 x2 x3 x4 x5 x6) (hf : ∀ x1 x2 x3 x4 x5 x6, I [] x1 x2 x3 x4 x5 x6 → f x1 x2 x3 x4 x5 x6) (h : ∀ left x1 x2 x3 x4 x5 x6, I left x1 x2 x3 x4 x5 x6 → ∀ i (hi : i < left.length), b left[i].1 left[i].2 x1 x2 x3 x4 x5 x6 fun y1 y2 y3 y4 y5 y6 => I (left.eraseIdx i) y1 y2 y3 y4 y5 y6)
end Go.Eng

/- An abstract machine over plain data, part ZL: values compared (for what is told at given arguments). -/
namespace Go.Eng
mutual
def C.eqb : C → C → Bool
  | .int k a, .int k' b => decide (k = k') && decide (a = b)
  | .bool a, .bool b => a == b
  | .nil, .nil => true
  | .sl l xs, .sl l' ys => LK.beqs l l' && C.eqbR xs ys
  | _, _ => false
def C.eqbL : List C → List C → Bool
  | [], [] => true
  | x :: xs, y :: ys => x.eqb y && C.eqbL xs ys
  | _, _ => false
def C.eqbR : List (List C) → List (List C) → Bool
  | [], [] => true
  | x :: xs, y :: ys => C.eqbL x y && C.eqbR xs ys
  | _, _ => false
end
mutual
theorem C.eqb_eq : ∀ {a b : C}, a.eqb b = true → a = b
  | .int k a, .int k' b, h => by
    simp only [C.eqb, Bool.and_eq_true, decide_eq_true_eq] at h
    rw [h.1, h.2]
  | .bool a, .bool b, h => by simp only [C.eqb, beq_iff_eq] at h; rw [h]
  | .nil, .nil, _ => rfl
  | .sl l xs, .sl l' ys, h => by
    simp only [C.eqb, Bool.and_eq_true] at h
    rw [LK.beqs_eq _ _ h.1, C.eqbR_eq h.2]
theorem C.eqbL_eq : ∀ {a b : List C}, C.eqbL a b = true → a = b
  | [], [], _ => rfl
  | x :: xs, y :: ys, h => by
    simp only [C.eqbL, Bool.and_eq_true] at h
    rw [C.eqb_eq h.1, C.eqbL_eq h.2]
theorem C.eqbR_eq : ∀ {a b : List (List C)}, C.eqbR a b = true → a = b
  | [], [], _ => rfl
  | x :: xs, y :: ys, h => by
    simp only [C.eqbR, Bool.and_eq_true] at h
    rw [C.eqbL_eq h.1, C.eqbR_eq h.2]
end
mutual
def A.eqb : A → A → Bool
  | .c x, .c y => x.eqb y
  | .agg l, .agg l' => A.eqbL l l'
  | _, _ => false
def A.eqbL : List A → List A → Bool
  | [], [] => true
  | x :: xs, y :: ys => x.eqb y && A.eqbL xs ys
  | _, _ => false
end
mutual
theorem A.eqb_eq : ∀ {a b : A}, a.eqb b = true → a = b
  | .c x, .c y, h => by rw [C.eqb_eq (a := x) (b := y) h]
  | .agg l, .agg l', h => by rw [A.eqbL_eq (a := l) (b := l') h]
theorem A.eqbL_eq : ∀ {a b : List A}, A.eqbL a b = true → a = b
  | [], [], _ => rfl
  | x :: xs, y :: ys, h => by
    simp only [A.eqbL, Bool.and_eq_true] at h
    rw [A.eqb_eq h.1, A.eqbL_eq h.2]
end
end Go.Eng

/- An abstract machine over plain data, part ZM: what is handed to a call may be told otherwise; an array moves to a new place. -/
namespace Go.Eng
open Go.RowKit
/-- What is handed to a call may be told otherwise. -/
theorem ACalls.pre {P : Program} {f : FuncId} {xs xs' : List A} {H H' : List O} {Q : A → List O → Prop} (hg : GSt H.length ⟨xs, H⟩ ⟨xs', H'⟩) (h : ACalls P f xs' H' Q) : ACalls P f xs H Q := by
  intro w0 w G vs hH hs hv
  obtain ⟨G1, s1⟩ := hg w0 G G ⟨vs, w0.df⟩ w ⟨hs, fun t h1 h2 => hv t h1 h2, hH, rfl, Gh.Le.refl _ _, fun id hi => hH.lt id hi, fun id hi => .inl hi, Nat.le_refl _⟩
  refine (h w0 w G1 vs s1.hr s1.size s1.val).mono fun e w' ⟨r, v, G', H2, e1, e2, e3, e4, e5, e6, e7⟩ => ⟨r, v, G', H2, e1, e2, e3, s1.le.trans e4, fun i hi => ?_, Nat.le_trans s1.n0 e6, e7⟩
  rcases e5 i hi with h1 | h1
  · exact s1.fr i h1
  · exact .inr (Nat.le_trans s1.n0 h1)
/-- An array that a variable holds, under a new number. -/
theorem GSt.mvBox {n0 : Nat} {s : St} (b j id : Nat) {Tb T : TypeId} {cs : List A} {lay : List LK} {xs : List (List C)} (hb : s.H[b]? = some (.box Tb cs)) (hj : cs[j]? = some (.gr id)) (ho : s.H[id]? = some (.arr T lay xs)) :
    GSt n0 s ⟨s.T, ((s.H.set id .dead).set b (.box Tb (cs.set j (.gr s.H.length)))) ++ [.arr T lay xs]⟩ := by
  intro w0 G0 G a w hS
  have hne : b ≠ id := fun e => by rw [e, ho] at hb; cases hb
  have hal : G.al s.H.length = false := by
    cases e : G.al s.H.length with
    | false => rfl
    | true => exact absurd (hS.hr.lt _ e) (Nat.lt_irrefl _)
  have hLe := G.le_push w0.keeps s.H.length (G.blk id) (G.room id) (G.esz id) (G.cnt id) (G.ph id) hal
  have hOR := hS.hr.obj id _ ho
  have hK := hS.hr.kill id
  have hH := HR.place (hK.widen 1) s.H.length (G.blk id) (G.room id) (G.esz id) (G.cnt id) (G.ph id) (.arr T lay xs) (by simp) hal (fun hp => ?_) ?_
  rotate_left
  · obtain ⟨k1, k2, k3⟩ := hS.hr.new id _ ho rfl hp
    refine ⟨k1, k3, k2, fun i o' hi hl hpi => ?_⟩
    have hlt : i < (s.H.set id .dead ++ List.replicate 1 O.dead).length := lt_of_get hi
    by_cases h1 : i = id
    · subst h1
      rw [List.getElem?_append_left (by have := lt_of_get ho; simpa using this), List.getElem?_set_self (lt_of_get ho)] at hi
      cases hi; cases hl
    · by_cases h2 : i < s.H.length
      · rw [List.getElem?_append_left (by simpa using h2), List.getElem?_set_ne (fun e => h1 e.symm)] at hi
        exact hS.hr.inj i id o' _ hi ho hl rfl hpi hp h1
      · have : i = s.H.length := by simp at hlt; omega
        subst this
        rw [List.getElem?_append_right (by simp)] at hi
        simp at hi
        subst hi; cases hl
  · obtain ⟨o1, o2, o3, o4, o5⟩ := hOR
    refine ⟨by simp [Gh.push], by simp [Gh.push, o2], by simp [Gh.push, o3], fun hp => ?_, fun hp => ?_⟩
    · have hp' : G.ph id = false := by simpa [Gh.push] using hp
      obtain ⟨vs, q1, q2, q3, q4⟩ := o4 hp'
      exact ⟨vs, by simpa [Gh.push] using q1, by simpa [Gh.push] using q2, by simpa [Gh.push] using q3, q4⟩
    · exact o5 (by simpa [Gh.push] using hp)
  have e : (s.H.set id .dead ++ List.replicate 1 O.dead).set s.H.length (.arr T lay xs) = s.H.set id .dead ++ [.arr T lay xs] := by
    rw [List.set_append_right _ _ (by simp)]; simp
  rw [e] at hH
  have hbl : b < s.H.length := lt_of_get hb
  have hb' : (s.H.set id .dead ++ [O.arr T lay xs])[b]? = some (.box Tb cs) := by rw [List.getElem?_append_left (by simpa using hbl), List.getElem?_set_ne (fun e => hne e.symm)]; exact hb
  obtain ⟨o1, o2, o3, o4, vs, o5, o6, o7⟩ := hH.obj b _ hb'
  have hH2 := hH.update hb' rfl o2 (.box Tb (cs.set j (.gr s.H.length))) rfl (fun _ _ => rfl) rfl rfl rfl ⟨o1, o2, o3, by simpa using o4, vs, o5, by simpa using o6, fun i h1 h2 => by
    have h1' : i < cs.length := by simpa using h1
    refine ⟨?_, (o7 i h1' h2).2⟩
    rw [List.getElem_set]
    split
    · rename_i hij
      subst hij
      have e3 : cs[j] = .gr id := by rw [List.getElem?_eq_getElem h1'] at hj; exact Option.some.inj hj
      have h3 : VR G (.gr id) vs[j] := by
        obtain ⟨_, _, _, _, vs', p5, p6, p7⟩ := hS.hr.obj b _ hb
        have hbk : (G.push s.H.length (G.blk id) (G.room id) (G.esz id) (G.cnt id) (G.ph id)).blk b = G.blk b := by simp [Gh.push, show b ≠ s.H.length by omega]
        rw [hbk] at o5
        rw [o5] at p5
        cases p5
        have := (p7 j h1' h2).1
        rwa [e3] at this
      generalize vs[j] = vv at h3
      cases h3 with
      | gr _ cap ad hid hp hcap hlen had =>
        have := VR.gr (G := G.push s.H.length (G.blk id) (G.room id) (G.esz id) (G.cnt id) (G.ph id)) s.H.length cap ad (by simp [Gh.push]) (by simp [Gh.push, hp]) (by simp [Gh.push, hcap]) (by simpa [Gh.push] using hlen) (by simpa [Gh.push] using had)
        simpa [Gh.push] using this
      | grn _ hid hp hc => exact .grn _ (by simp [Gh.push]) (by simp [Gh.push, hp]) (by simp [Gh.push, hc])
    · exact (o7 i h1' h2).1⟩
  have e2 : (s.H.set id .dead ++ [O.arr T lay xs]).set b (.box Tb (cs.set j (.gr s.H.length))) = (s.H.set id .dead).set b (.box Tb (cs.set j (.gr s.H.length))) ++ [.arr T lay xs] := by
    rw [List.set_append_left _ _ (by simpa using hbl)]
  rw [e2] at hH2
  refine ⟨_, hS.size, fun j h1 h2 => (hS.val j h1 h2).mono hLe, hH2, hS.df, hS.le.trans hLe, hS.al0, fun i hi => ?_, by simp; exact Nat.le_trans hS.n0 (Nat.le_succ _)⟩
  by_cases hi' : i = s.H.length
  · subst hi'; exact .inr hS.n0
  · simp only [Gh.push, if_neg hi'] at hi; exact hS.fr i hi
end Go.Eng
