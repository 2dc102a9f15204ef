/- Knives: patterns and their positions, plainly. No conditions. -/
import Derived.Test.YtjmgphobpgajbaaE4
set_option linter.unusedVariables false
set_option linter.unusedSimpArgs false
namespace Go.Proofs.Ytjmgphobpgajbaa.V
open Go Go.Eng
set_option maxRecDepth 1000000
set_option maxHeartbeats 1000000
abbrev sI (xs : List (List C)) : A := .c (.sl [.int .i64] xs)
abbrev L1 : List LK := [.sl [.int .i64]]
abbrev sL (xs : List (List C)) : A := .c (.sl L1 xs)
abbrev kL : Bool × List LK := (false, [.sl [.int .i64]])
abbrev kLL : Bool × List LK := (false, [.sl [.sl [.int .i64]]])
/-- Lists of integers as a slice's elements. -/
def rowL (ls : List (List Int)) : List (List C) := ls.map fun p => [.sl [.int .i64] (rowsI p)]
def unL (xs : List (List C)) : List (List Int) := xs.map fun r => prI (r.getD 0 .nil).gl
theorem unL_rowL (ls : List (List Int)) : unL (rowL ls) = ls := by
  unfold unL rowL
  rw [List.map_map]
  conv => rhs; rw [← List.map_id ls]
  exact List.map_congr_left fun p _ => prI_rowsI p
theorem rowL_len (ls : List (List Int)) : (rowL ls).length = ls.length := by simp [rowL]
theorem rowL_append (a b : List (List Int)) : rowL (a ++ b) = rowL a ++ rowL b := by simp [rowL]
theorem rowL_cell (ls : List (List Int)) (i : Nat) : (cellAt (rowL ls) i 0).gl = rowsI (ls.getD i []) := by
  unfold cellAt rowL
  by_cases h : i < ls.length
  · simp [List.getD, h, C.gl]
  · simp [List.getD, h, C.gl, rowsI]
abbrev dk (w e t k : Int) (ss : List Int) : A := .agg [iC w, iC e, iC t, iC k, sI (rowsI ss)]
/-- The usable width, as it is computed. -/
def usb (w e : Int) : Int := IntKind.i64.wrap (w - IntKind.i64.wrap (2 * e))
def badD (w e t k : Int) : Bool := decide (w < 1 ∨ 12000 < w ∨ e < 0 ∨ (w - 1).tdiv 2 < e ∨ t < 0 ∨ w < t ∨ k < 1 ∨ 12 < k)
def badS (w e s : Int) : Bool := decide (s < 1 ∨ usb w e < s)
def upB (ss : List Int) (j : Nat) : Bool := decide (ss.getD j 0 ≤ ss.getD (j + 1) 0)
def rngE (w e t k : Int) (ss : List Int) : Int :=
  if badD w e t k = true then 1 else if ss.length = 0 then 10 else if 8 < ss.length then 8 else if ixF ss.length (fun j => badS w e (ss.getD j 0)) 0 ≠ -1 then 20 else if ixF (ss.length - 1) (upB ss) 0 ≠ -1 then 9 else 0
/-- A deckle that is right but for the number of its patterns. -/
structure DOk (w e t k : Int) (ss : List Int) : Prop where
  w1 : 1 ≤ w
  w2 : w ≤ 12000
  e0 : 0 ≤ e
  e1 : 2 * e ≤ w - 1
  t0 : 0 ≤ t
  t1 : t ≤ w
  k1 : 1 ≤ k
  k2 : k ≤ 12
  n1 : 1 ≤ ss.length
  n8 : ss.length ≤ 8
  sz : ∀ s ∈ ss, 1 ≤ s ∧ s ≤ w - 2 * e
  dn : ss.Pairwise (· > ·)
theorem ixF_all {n : Nat} {p : Nat → Bool} (h : ixF n p 0 = -1) : ∀ i, i < n → p i = false := by
  intro i hi
  cases hp : p i with
  | false => rfl
  | true =>
    have := (ixF_pos (n := n) (p := p) n 0 (by omega)).2 ⟨i, Nat.zero_le _, hi, hp⟩
    omega
theorem usb_eq {w e : Int} (h1 : 1 ≤ w) (h2 : w ≤ 12000) (h3 : 0 ≤ e) (h4 : 2 * e ≤ w - 1) : usb w e = w - 2 * e := by
  unfold usb
  rw [wrap_in (n := 2 * e) (by omega) (by omega), wrap_in (by omega) (by omega)]
theorem pairwise_of_step {ss : List Int} (h : ∀ j, j + 1 < ss.length → ss.getD (j + 1) 0 < ss.getD j 0) : ss.Pairwise (· > ·) := by
  rw [List.pairwise_iff_getElem]
  intro i j hi hj hij
  have key : ∀ d i, (hi : i + d + 1 < ss.length) → ss.getD (i + d + 1) 0 < ss.getD i 0 := by
    intro d
    induction d with
    | zero => intro i hi; exact h i hi
    | succ d ih =>
      intro i hi
      have h1 := ih i (by omega)
      have h2 := h (i + d + 1) (by omega)
      rw [show i + (d + 1) + 1 = i + d + 1 + 1 by omega]
      omega
  have := key (j - i - 1) i (by omega)
  rw [show i + (j - i - 1) + 1 = j by omega, getD_get hi, getD_get hj] at this
  exact this
theorem rngE_ok {w e t k : Int} {ss : List Int} (h : rngE w e t k ss = 0) : DOk w e t k ss := by
  unfold rngE at h
  split at h
  · cases h
  rename_i h1
  split at h
  · cases h
  split at h
  · cases h
  split at h
  · cases h
  rename_i h2 h3 h4
  split at h
  · cases h
  rename_i h5
  have h4 : ixF ss.length (fun j => badS w e (ss.getD j 0)) 0 = -1 := Classical.not_not.1 h4
  have h5 : ixF (ss.length - 1) (upB ss) 0 = -1 := Classical.not_not.1 h5
  have h1 : ¬ (w < 1 ∨ 12000 < w ∨ e < 0 ∨ (w - 1).tdiv 2 < e ∨ t < 0 ∨ w < t ∨ k < 1 ∨ 12 < k) := by simpa [badD] using h1
  have hd : (w - 1).tdiv 2 = (w - 1) / 2 := Int.tdiv_eq_ediv_of_nonneg (by omega)
  rw [hd] at h1
  have he : 2 * e ≤ w - 1 := by omega
  have hu := usb_eq (w := w) (e := e) (by omega) (by omega) (by omega) he
  refine ⟨by omega, by omega, by omega, he, by omega, by omega, by omega, by omega, by omega, by omega, fun s hs => ?_, pairwise_of_step fun j hj => ?_⟩
  · obtain ⟨i, hi, rfl⟩ := List.mem_iff_getElem.1 hs
    have := ixF_all h4 i hi
    simp only [getD_get hi, badS, hu, decide_eq_false_iff_not] at this
    omega
  · have := ixF_all h5 j (by omega)
    simp only [upB, decide_eq_false_iff_not] at this
    omega
/-! ### The patterns -/
/-- f for m, m - 1, .. 0. -/
def dnk {α : Type} (f : Int → α → α) (m : Int) (x : α) (n : Nat) : α := (List.range n).foldl (fun o (i : Nat) => f (m - (i : Int)) o) x
theorem dnk_succ {α : Type} (f : Int → α → α) (m : Int) (x : α) (n : Nat) : dnk f m x (n + 1) = f (m - n) (dnk f m x n) := by
  unfold dnk; rw [List.range_succ, List.foldl_append]; rfl
theorem dnk_congr {α : Type} {f g : Int → α → α} {m : Int} {x : α} : ∀ {n : Nat}, (n : Int) ≤ m + 1 → (∀ i o, 0 ≤ i → i ≤ m → f i o = g i o) → dnk f m x n = dnk g m x n
  | 0, _, _ => rfl
  | n + 1, h, hfg => by
    rw [dnk_succ, dnk_succ, dnk_congr (n := n) (by omega) hfg]
    exact hfg _ _ (by omega) (by omega)
theorem dnk_id {α : Type} {f : Int → α → α} {m : Int} {x : α} : ∀ {n : Nat}, (n : Int) ≤ m + 1 → (∀ i, 0 ≤ i → i ≤ m → f i x = x) → dnk f m x n = x
  | 0, _, _ => rfl
  | n + 1, h, hf => by
    rw [dnk_succ, dnk_id (n := n) (by omega) hf]
    exact hf _ (by omega) (by omega)
def mst (kn left w : Int) : Int := if left / w < kn then left / w else kn
/-- The program's list. -/
def enu (t k : Int) (most : Nat) : List Int → List Int → Int → Int → List (List Int) → List (List Int)
  | [], pre, kn, left, out => if most ≤ out.length then out else if left ≤ t ∧ kn < k then out ++ [pre] else out
  | w :: r, pre, kn, left, out => if most ≤ out.length then out else if t < left - kn * w then out else
      dnk (fun n o => enu t k most r (pre ++ [n]) (kn - n) (left - n * w) o) (mst kn left w) out (mst kn left w + 1).toNat
/-- The reference's list. -/
def enl (t k : Int) (most : Nat) : List Int → List Int → Int → Int → List (List Int) → List (List Int)
  | [], pre, kn, left, out => if most ≤ out.length then out else if left ≤ t ∧ kn < k then out ++ [pre] else out
  | w :: r, pre, kn, left, out => if most ≤ out.length then out else
      dnk (fun n o => enl t k most r (pre ++ [n]) (kn - n) (left - n * w) o) (mst kn left w) out (mst kn left w + 1).toNat
theorem mst_ok {kn left w : Int} (h1 : 0 ≤ kn) (h2 : 0 ≤ left) (h3 : 1 ≤ w) : 0 ≤ mst kn left w ∧ mst kn left w ≤ kn ∧ mst kn left w * w ≤ left := by
  have hd : 0 ≤ left / w := Int.ediv_nonneg h2 (by omega)
  have hm : left / w * w ≤ left := Int.ediv_mul_le left (by omega)
  unfold mst
  split
  · omega
  · refine ⟨h1, Int.le_refl _, Int.le_trans ?_ hm⟩
    exact Int.mul_le_mul_of_nonneg_right (by omega) (by omega)
theorem mul_up {n m w : Int} (h0 : 0 ≤ w) (h : n ≤ m) : n * w ≤ m * w := Int.mul_le_mul_of_nonneg_right h h0
theorem enl_none {t k W : Int} (hW : 1 ≤ W) (most : Nat) : ∀ (r : List Int) (pre : List Int) (kn left : Int) (out : List (List Int)), (∀ s ∈ r, 1 ≤ s ∧ s ≤ W) → 0 ≤ kn → 0 ≤ left → t < left - kn * W → enl t k most r pre kn left out = out
  | [], pre, kn, left, out, hr, h1, h2, h3 => by
    unfold enl
    have := Int.mul_nonneg h1 (show 0 ≤ W by omega)
    split
    · rfl
    · rw [if_neg (by omega)]
  | s :: r, pre, kn, left, out, hr, h1, h2, h3 => by
    unfold enl
    obtain ⟨s1, s2⟩ := hr s (by simp)
    obtain ⟨m0, m1, m2⟩ := mst_ok h1 h2 s1
    split
    · rfl
    · refine dnk_id (by omega) fun i i0 i1 => enl_none hW most r _ _ _ _ (fun x hx => hr x (by simp [hx])) (by omega) ?_ ?_
      · have := mul_up (w := s) (by omega) i1; omega
      · have h4 : i * s ≤ i * W := Int.mul_le_mul_of_nonneg_left s2 i0
        have h5 : (kn - i) * W = kn * W - i * W := by rw [Int.sub_mul]
        omega
theorem enu_enl {t k : Int} (most : Nat) : ∀ (r : List Int) (pre : List Int) (kn left : Int) (out : List (List Int)), (∀ s ∈ r, 1 ≤ s) → r.Pairwise (· > ·) → 0 ≤ kn → 0 ≤ left → enu t k most r pre kn left out = enl t k most r pre kn left out
  | [], pre, kn, left, out, hr, hp, h1, h2 => rfl
  | s :: r, pre, kn, left, out, hr, hp, h1, h2 => by
    have s1 := hr s (by simp)
    obtain ⟨m0, m1, m2⟩ := mst_ok h1 h2 s1
    rw [enu, enl]
    split
    · rfl
    · split
      · rename_i hc h3
        have := enl_none (t := t) (k := k) s1 most (s :: r) pre kn left out (fun x hx => ⟨hr x hx, by
          rcases List.mem_cons.1 hx with rfl | hx
          · exact Int.le_refl _
          · have := (List.pairwise_cons.1 hp).1 x hx; omega⟩) h1 h2 h3
        rw [enl, if_neg hc] at this
        exact this.symm
      · refine dnk_congr (by omega) fun i o i0 i1 => enu_enl most r _ _ _ _ (fun x hx => hr x (by simp [hx])) (List.pairwise_cons.1 hp).2 (by omega) ?_
        have := mul_up (w := s) (by omega) i1; omega
/-- The error of a deckle. -/
def chkE (w e t k : Int) (ss : List Int) : Int := if rngE w e t k ss ≠ 0 then rngE w e t k ss else if 1024 < (enu t k 1025 ss [] k (w - 2 * e) []).length then 8 else 0
theorem chkE_ok {w e t k : Int} {ss : List Int} (h : chkE w e t k ss = 0) : DOk w e t k ss := by
  unfold chkE at h
  split at h
  · rename_i q; exact absurd h q
  · exact rngE_ok (Classical.not_not.1 (by assumption))
/-! ### One pattern -/
def sumL : List Int → Int
  | [] => 0
  | a :: l => a + sumL l
def dot : List Int → List Int → Int
  | a :: l, s :: m => a * s + dot l m
  | _, _ => 0
theorem sumL_snoc : ∀ (l : List Int) (a : Int), sumL (l ++ [a]) = sumL l + a
  | [], a => by simp [sumL]
  | b :: l, a => by simp only [List.cons_append, sumL]; rw [sumL_snoc l a]; omega
theorem dot_snoc : ∀ (l m : List Int) (a s : Int), l.length = m.length → dot (l ++ [a]) (m ++ [s]) = dot l m + a * s
  | [], [], a, s, _ => by simp [dot]
  | b :: l, c :: m, a, s, h => by
    simp only [List.cons_append, dot]
    rw [dot_snoc l m a s (by simpa using h)]; omega
  | [], _ :: _, a, s, h => by simp at h
  | _ :: _, [], a, s, h => by simp at h
theorem dot_take : ∀ (l m : List Int), l.length = m.length → dot l m = dot l m := fun _ _ _ => rfl
theorem sumL_nonneg : ∀ {l : List Int}, (∀ a ∈ l, 0 ≤ a) → 0 ≤ sumL l
  | [], _ => Int.le_refl _
  | a :: l, h => by
    have := sumL_nonneg (l := l) fun x hx => h x (by simp [hx])
    have := h a (by simp)
    simp only [sumL]; omega
theorem sumL_mem : ∀ {l : List Int}, (∀ a ∈ l, 0 ≤ a) → ∀ a ∈ l, a ≤ sumL l
  | b :: l, h, a, ha => by
    have h1 := sumL_nonneg (l := l) fun x hx => h x (by simp [hx])
    have h2 := h b (by simp)
    simp only [sumL]
    rcases List.mem_cons.1 ha with rfl | ha
    · omega
    · have := sumL_mem (l := l) (fun x hx => h x (by simp [hx])) a ha; omega
theorem sumL_zero {l : List Int} (h : ∀ a ∈ l, 0 ≤ a) : sumL l = 0 ↔ ∀ a ∈ l, a = 0 := by
  refine ⟨fun q a ha => by have := sumL_mem h a ha; have := h a ha; omega, fun q => ?_⟩
  clear h
  induction l with
  | nil => rfl
  | cons a l ih => simp only [sumL, ih fun x hx => q x (by simp [hx]), q a (by simp)]; rfl
def negB (c : List Int) (j : Nat) : Bool := decide (c.getD j 0 < 0)
/-- The error of a pattern of a deckle that is right. -/
def fitE (w e t k : Int) (ss c : List Int) : Int :=
  if c.length ≠ ss.length then 3 else if ixF c.length (negB c) 0 ≠ -1 then 1 else if sumL c = 0 then 10 else if k < sumL c then 23 else if w - 2 * e < dot c ss then 20 else if t < w - 2 * e - dot c ss then 24 else 0
structure Fit (w e t k : Int) (ss c : List Int) : Prop where
  len : c.length = ss.length
  pos : ∀ a ∈ c, 0 ≤ a
  one : 1 ≤ sumL c
  knv : sumL c ≤ k
  wid : dot c ss ≤ w - 2 * e
  trm : w - 2 * e - dot c ss ≤ t
theorem neg_all {c : List Int} (h : ixF c.length (negB c) 0 = -1) : ∀ a ∈ c, 0 ≤ a := by
  intro a ha
  obtain ⟨i, hi, rfl⟩ := List.mem_iff_getElem.1 ha
  have := ixF_all h i hi
  simp only [negB, getD_get hi, decide_eq_false_iff_not] at this
  omega
theorem neg_no {c : List Int} (h : ∀ a ∈ c, 0 ≤ a) : ixF c.length (negB c) 0 = -1 := by
  rcases Int.lt_or_le (ixF c.length (negB c) 0) 0 with q | q
  · have : ∀ d j, c.length - j = d → ixF c.length (negB c) j < 0 → ixF c.length (negB c) j = -1 := by
      intro d
      induction d with
      | zero => intro j hj _; exact ixF_ge (by omega)
      | succ d ih =>
        intro j hj hl
        rw [ixF_lt (by omega)] at hl ⊢
        split
        · rename_i hp; rw [if_pos hp] at hl; omega
        · rename_i hp; rw [if_neg hp] at hl; exact ih (j + 1) (by omega) hl
    exact this _ 0 rfl q
  · obtain ⟨i, _, hi, hp⟩ := (ixF_pos (n := c.length) (p := negB c) c.length 0 (by omega)).1 q
    have := h _ (getD_mem (d := 0) hi)
    simp only [negB, decide_eq_true_eq] at hp
    omega
theorem fitE_ok {w e t k : Int} {ss c : List Int} (h : fitE w e t k ss c = 0) : Fit w e t k ss c := by
  unfold fitE at h
  repeat' (split at h; · cases h)
  rename_i h1 h2 h3 h4 h5 h6
  have hp := neg_all (Classical.not_not.1 h2)
  have := sumL_nonneg hp
  exact ⟨Classical.not_not.1 h1, hp, by omega, by omega, by omega, by omega⟩
theorem fitE_iff {w e t k : Int} {ss c : List Int} : fitE w e t k ss c = 0 ↔ Fit w e t k ss c := by
  refine ⟨fitE_ok, fun h => ?_⟩
  unfold fitE
  rw [if_neg (by have := h.len; omega), if_neg (fun q => q (neg_no h.pos)), if_neg (by have := h.one; omega), if_neg (by have := h.knv; omega), if_neg (by have := h.wid; omega), if_neg (by have := h.trm; omega)]
def fitsE (w e t k : Int) (ss c : List Int) : Int := if chkE w e t k ss ≠ 0 then chkE w e t k ss else fitE w e t k ss c
theorem fitsE_ok {w e t k : Int} {ss c : List Int} (h : fitsE w e t k ss c = 0) : DOk w e t k ss ∧ Fit w e t k ss c := by
  unfold fitsE at h
  split at h
  · rename_i q; exact absurd h q
  · exact ⟨chkE_ok (Classical.not_not.1 (by assumption)), fitE_ok h⟩
/-! ### Strips and positions -/
def wsL : List Int → List Int → List Int
  | n :: c, s :: ss => List.replicate n.toNat s ++ wsL c ss
  | _, _ => []
def stL : Int → List Int → List I2
  | _, [] => []
  | at', w :: r => (at', w) :: stL (at' + w) r
def posL : Int → List Int → List Int
  | at', [] => [at']
  | at', w :: r => at' :: posL (at' + w) r
theorem wsL_len : ∀ (c ss : List Int), (∀ a ∈ c, 0 ≤ a) → c.length = ss.length → ((wsL c ss).length : Int) = sumL c
  | [], [], _, _ => rfl
  | n :: c, s :: ss, h, hl => by
    have ih := wsL_len c ss (fun x hx => h x (by simp [hx])) (by simpa using hl)
    have := h n (by simp)
    simp only [wsL, sumL, List.length_append, List.length_replicate]
    push_cast
    omega
  | [], _ :: _, _, h => by simp at h
  | _ :: _, [], _, h => by simp at h
theorem wsL_sum : ∀ (c ss : List Int), (∀ a ∈ c, 0 ≤ a) → c.length = ss.length → sumL (wsL c ss) = dot c ss
  | [], [], _, _ => rfl
  | n :: c, s :: ss, h, hl => by
    have ih := wsL_sum c ss (fun x hx => h x (by simp [hx])) (by simpa using hl)
    have hn := h n (by simp)
    have rep : ∀ (m : Nat) (l : List Int), sumL (List.replicate m s ++ l) = m * s + sumL l := by
      intro m l
      induction m with
      | zero => simp
      | succ m ihm =>
        rw [List.replicate_succ, List.cons_append, sumL, ihm]
        push_cast
        rw [Int.add_mul]; omega
    simp only [wsL, dot]
    rw [rep, ih]
    rw [show ((n.toNat : Int)) = n by omega]
  | [], _ :: _, _, h => by simp at h
  | _ :: _, [], _, h => by simp at h
theorem wsL_mem : ∀ {c ss : List Int} {x : Int}, x ∈ wsL c ss → x ∈ ss
  | n :: c, s :: ss, x, h => by
    simp only [wsL, List.mem_append] at h
    rcases h with h | h
    · rw [List.eq_of_mem_replicate h]; simp
    · exact List.mem_cons_of_mem _ (wsL_mem h)
  | [], _, x, h => by cases h
  | _ :: _, [], x, h => by cases h
theorem stL_len (at' : Int) (ws : List Int) : (stL at' ws).length = ws.length := by
  induction ws generalizing at' with
  | nil => rfl
  | cons w r ih => simp [stL, ih]
theorem posL_len (at' : Int) (ws : List Int) : (posL at' ws).length = ws.length + 1 := by
  induction ws generalizing at' with
  | nil => rfl
  | cons w r ih => simp [posL, ih]
theorem posL_ge {ws : List Int} (h : ∀ w ∈ ws, 1 ≤ w) : ∀ {at' : Int}, ∀ x ∈ posL at' ws, at' ≤ x := by
  induction ws with
  | nil => intro at' x hx; simp [posL] at hx; omega
  | cons w r ih =>
    intro at' x hx
    have := h w (by simp)
    simp only [posL, List.mem_cons] at hx
    rcases hx with rfl | hx
    · exact Int.le_refl _
    · have := ih (fun y hy => h y (by simp [hy])) x hx; omega
theorem posL_lt {ws : List Int} (h : ∀ w ∈ ws, 1 ≤ w) : ∀ {at' : Int}, (posL at' ws).Pairwise (· < ·) := by
  induction ws with
  | nil => intro at'; simp [posL]
  | cons w r ih =>
    intro at'
    have hw := h w (by simp)
    have hr : ∀ y ∈ r, 1 ≤ y := fun y hy => h y (by simp [hy])
    simp only [posL, List.pairwise_cons]
    exact ⟨fun x hx => by have := posL_ge hr x hx; omega, ih hr⟩
theorem posL_snoc : ∀ (ws : List Int) (at' w : Int), posL at' (ws ++ [w]) = posL at' ws ++ [at' + sumL ws + w]
  | [], at', w => by simp [posL, sumL]
  | v :: r, at', w => by
    simp only [List.cons_append, posL, sumL]
    rw [posL_snoc r (at' + v) w]
    simp [Int.add_assoc]
theorem posL_last : ∀ (ws : List Int) (at' : Int), (posL at' ws).getD ws.length 0 = at' + sumL ws
  | [], at' => by simp [posL, sumL]
  | v :: r, at' => by
    have := posL_last r (at' + v)
    simp only [posL, List.length_cons, List.getD_cons_succ, sumL]
    rw [this]; omega
/-- The positions of a pattern that fits. -/
def knL (w e t k : Int) (ss c : List Int) : List Int := if fitsE w e t k ss c = 0 then posL e (wsL c ss) else []
theorem knL_ok {w e t k : Int} {ss c : List Int} (h : fitsE w e t k ss c = 0) : (∀ x ∈ wsL c ss, 1 ≤ x ∧ x ≤ 12000) ∧ 1 ≤ (wsL c ss).length ∧ (wsL c ss).length ≤ 12 ∧ sumL (wsL c ss) = dot c ss := by
  obtain ⟨hd, hf⟩ := fitsE_ok h
  have hl := wsL_len c ss hf.pos hf.len
  have := hf.one; have := hf.knv; have := hd.k2; have := hd.w2; have := hd.e0
  exact ⟨fun x hx => by have := hd.sz x (wsL_mem hx); omega, by omega, by omega, wsL_sum c ss hf.pos hf.len⟩
theorem knL_lt (w e t k : Int) (ss c : List Int) : (knL w e t k ss c).Pairwise (· < ·) ∧ (knL w e t k ss c).length ≤ 13 := by
  unfold knL
  split
  · rename_i h
    obtain ⟨h1, h2, h3, _⟩ := knL_ok h
    exact ⟨posL_lt fun x hx => (h1 x hx).1, by rw [posL_len]; omega⟩
  · exact ⟨List.Pairwise.nil, by simp⟩
end Go.Proofs.Ytjmgphobpgajbaa.V
