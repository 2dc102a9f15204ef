/- Knives: positions of knives, and how many move. No conditions. -/
import Derived.Test.YtjmgphobpgajbaaGB
import Derived.Test.YtjmgphobpgajbaaLays
set_option linter.unusedVariables false
set_option linter.unusedSimpArgs false
namespace Go.Proofs.Ytjmgphobpgajbaa.V
open Go Go.Eng
set_option maxRecDepth 1000000
set_option maxHeartbeats 1000000
theorem gm_mp (k : IntKind) (b : Bool) (l : List LK) (es : List (Int × List C)) : (C.mp k b l es).gm = es := rfl
/-! ### One more number -/
def putL (x : Int) : List Int → List Int
  | [] => [x]
  | a :: r => if a < x then a :: putL x r else if a = x then a :: r else x :: a :: r
theorem putL_drop {x : Int} : ∀ {l : List Int} {k : Nat}, k ≤ l.length → (∀ j, j < k → l.getD j 0 < x) → putL x l = l.take k ++ putL x (l.drop k)
  | l, 0, _, _ => rfl
  | [], k + 1, h, _ => by simp at h
  | a :: l, k + 1, h, hj => by
    have h0 := hj 0 (by omega)
    simp only [List.getD_cons_zero] at h0
    have ih := putL_drop (x := x) (l := l) (k := k) (by simpa using h) fun j hjk => by have := hj (j + 1) (by omega); simpa using this
    simp only [putL, if_pos h0, List.take_succ_cons, List.drop_succ_cons, List.cons_append]
    rw [ih]
theorem putL_mem {x : Int} : ∀ {l : List Int}, l.Pairwise (· < ·) → x ∈ l → putL x l = l
  | a :: l, h, hx => by
    rw [List.pairwise_cons] at h
    unfold putL
    rcases List.mem_cons.1 hx with rfl | hx
    · rw [if_neg (by omega), if_pos rfl]
    · rw [if_pos (h.1 x hx), putL_mem h.2 hx]
theorem putL_len {x : Int} : ∀ {l : List Int}, l.Pairwise (· < ·) → ((putL x l).length = if x ∈ l then l.length else l.length + 1)
  | [], _ => by simp [putL]
  | a :: l, h => by
    rw [List.pairwise_cons] at h
    have ih := putL_len (x := x) h.2
    unfold putL
    by_cases h1 : a < x
    · rw [if_pos h1, List.length_cons, ih]
      simp only [List.mem_cons, show ¬ x = a by omega, false_or]
      split <;> simp
    · rw [if_neg h1]
      by_cases h2 : a = x
      · rw [if_pos h2, if_pos (by simp [h2])]
      · rw [if_neg h2, if_neg (fun q => by
          rcases List.mem_cons.1 q with q | q
          · omega
          · have := h.1 x q; omega)]
        simp
theorem putL_gt {x : Int} : ∀ {l : List Int}, (∀ a ∈ l, a < x) → putL x l = l ++ [x]
  | [], _ => rfl
  | a :: l, h => by
    unfold putL
    rw [if_pos (h a (by simp)), putL_gt fun b hb => h b (by simp [hb])]; rfl
theorem putL_le (x : Int) : ∀ (l : List Int), (putL x l).length ≤ l.length + 1
  | [] => by simp [putL]
  | a :: l => by
    have := putL_le x l
    unfold putL
    split
    · simp; omega
    · split <;> simp
def S27 : List A → List C := fun ds => match ds with
  | [.c (.sl _ xs), .c (.int _ x)] => [.sl [.int .i64] (rowsI (putL x (prI xs)))]
  | _ => []
theorem e27 (l : List Int) (x : Int) : S27 [sI (rowsI l), iC x] = [.sl [.int .i64] (rowsI (putL x l))] := by
  show [C.sl [.int .i64] (rowsI (putL x (prI (rowsI l))))] = _
  rw [prI_rowsI]
def tbl27 : FuncId → List A → List C := fun f ds => match f with
  | _ => []
theorem pc27  {x1 : List (List C)} {x2 : Int} {row : List C} (hS : S27 [.c (.sl [.int .i64] x1), .c (.int .i64 x2)] = row) (h : vc27 (stdE Try.prog tbl27) x1 x2 fun c => c = row) : PCg Try.prog 27 S27 [(false, [.sl [.int .i64]])] [.c (.sl [.int .i64] x1), .c (.int .i64 x2)] := PureC_vc mo h27 (by kernel_rfl) hS (w27  h)
theorem p27 {l : List Int} (hl : l.length ≤ 1000000) (x : Int) : PCg Try.prog 27 S27 [kL] [sI (rowsI l), iC x] := by
  refine pc27 (e27 l x) ?_
  unfold vc27
  simp only [stdE, baseE, Br_iff, Imp_iff, rowsI_len, rowsI_getD]
  refine LoopP1.run (fun k : Nat => (k : Int)) (fun k => k ≤ l.length ∧ ∀ j, j < k → l.getD j 0 < x) (fun k => l.length - k) 0 ⟨Nat.zero_le _, fun j hj => absurd hj (Nat.not_lt_zero j)⟩ rfl ?_
  rintro k ⟨hk, hj⟩ K hK
  simp only [toNat_cast]
  have hd := putL_drop hk hj
  refine ⟨fun _ => by simp, fun h1 => ?_, fun h1 => ?_⟩
  · by_cases h2 : (k : Int) < l.length
    · rw [if_pos (by simpa using h2)] at h1
      refine hK _ (k + 1) ⟨by omega, fun j hjk => ?_⟩ (by omega) (wrap_up rfl (by omega))
      by_cases e : j = k
      · rw [e]; exact of_decide_eq_true h1
      · exact hj j (by omega)
    · rw [if_neg (by simpa using h2)] at h1; cases h1
  · have h1' : k < l.length → ¬ l.getD k 0 < x := fun q => by
      rw [if_pos (by simpa using q)] at h1; exact of_decide_eq_false h1
    refine ⟨fun h2 => ?_, fun h2 => ?_⟩
    · have hlt : k < l.length := by
        apply Classical.byContradiction
        intro q
        rw [if_neg (by simpa using q)] at h2; cases h2
      rw [if_pos (by simpa using hlt)] at h2
      have h2 : l.getD k 0 = x := by simpa using h2
      rw [hd, List.drop_eq_getElem_cons hlt]
      rw [getD_get hlt] at h2
      rw [putL, if_neg (by omega), if_pos h2, ← List.drop_eq_getElem_cons hlt, List.take_append_drop]
    · have e1 : putL x (l.drop k) = x :: l.drop k := by
        by_cases hlt : k < l.length
        · rw [if_pos (by simpa using hlt)] at h2
          have h2 : l.getD k 0 ≠ x := by simpa using h2
          have h3 := h1' hlt
          rw [List.drop_eq_getElem_cons hlt]
          rw [getD_get hlt] at h2 h3
          rw [putL, if_neg h3, if_neg h2]
        · rw [List.drop_of_length_le (by omega)]; rfl
      simp only [List.nil_append, Int.toNat_zero, List.drop_zero, List.length_nil]
      refine ⟨by simp, by simp, by simp; omega, by simp [rowsI_len]; omega, by simp [rowsI_len]; omega, by simp, by simp [rowsI_len]; omega, ?_⟩
      rw [hd, e1, show (List.take l.length (rowsI l)) = rowsI l by rw [← rowsI_len l, List.take_length]]
      simp [rowsI, List.map_take, List.map_drop]
/-! ### The strips' ends -/
theorem stL_get : ∀ (ws : List Int) (at' : Int) {n : Nat}, n < ws.length → (stL at' ws).getD n z2 = (at' + sumL (ws.take n), ws.getD n 0)
  | w :: r, at', 0, _ => by simp [stL, sumL]
  | w :: r, at', n + 1, h => by
    have := stL_get r (at' + w) (n := n) (by simpa using h)
    simp only [stL, List.getD_cons_succ, List.take_succ_cons, sumL]
    rw [this, Int.add_assoc]
/-- The positions of the first n strips. -/
def posT (e : Int) (ws : List Int) (n : Nat) : List Int := if n = 0 then [] else posL e (ws.take n)
theorem posT_lt {e : Int} {ws : List Int} (h : ∀ w ∈ ws, 1 ≤ w) (n : Nat) : (posT e ws n).Pairwise (· < ·) := by
  unfold posT
  split
  · exact .nil
  · exact posL_lt fun w hw => h w (mem_take hw)
theorem posL_le {ws : List Int} (h : ∀ w ∈ ws, 1 ≤ w) : ∀ {at' : Int}, ∀ x ∈ posL at' ws, x ≤ at' + sumL ws := by
  induction ws with
  | nil => intro at' x hx; simp [posL] at hx; simp [sumL]; omega
  | cons w r ih =>
    intro at' x hx
    have hr : ∀ y ∈ r, 1 ≤ y := fun y hy => h y (by simp [hy])
    have hs := sumL_nonneg (l := r) fun y hy => by have := hr y hy; omega
    have hw := h w (by simp)
    simp only [posL, List.mem_cons] at hx
    simp only [sumL]
    rcases hx with rfl | hx
    · omega
    · have := ih hr x hx; omega
theorem posL_mem_last (e : Int) (ws : List Int) : e + sumL ws ∈ posL e ws := by
  have := posL_last ws e
  rw [← this]
  exact getD_mem (by rw [posL_len]; omega)
theorem posT_up {e : Int} {ws : List Int} {n : Nat} (hn : n < ws.length) : posT e ws (n + 1) = (if n = 0 then [e] else posT e ws n) ++ [e + sumL (ws.take n) + ws.getD n 0] := by
  unfold posT
  rw [if_neg (by omega), take_s hn, posL_snoc]
  by_cases h : n = 0
  · subst h; simp [posL]
  · rw [if_neg h, if_neg h]
theorem posT_left {e : Int} {ws : List Int} {n : Nat} (h : n ≠ 0) : e + sumL (ws.take n) ∈ posT e ws n := by
  unfold posT
  rw [if_neg h]; exact posL_mem_last _ _
/-- Both ends of a strip are put in. -/
theorem put_strip {e : Int} {ws : List Int} (h : ∀ w ∈ ws, 1 ≤ w) {n : Nat} (hn : n < ws.length) : putL (e + sumL (ws.take n) + ws.getD n 0) (putL (e + sumL (ws.take n)) (posT e ws n)) = posT e ws (n + 1) := by
  have hw := h _ (getD_mem (d := 0) hn)
  rw [posT_up hn]
  by_cases h0 : n = 0
  · subst h0
    simp only [posT, if_pos, List.take_zero, sumL, Int.add_zero, putL]
    rw [if_pos (by omega)]; rfl
  · rw [if_neg h0, putL_mem (posT_lt h n) (posT_left h0), putL_gt]
    intro a ha
    unfold posT at ha
    rw [if_neg h0] at ha
    have := posL_le (fun w hw => h w (mem_take hw)) a ha
    omega
def mpL (xs : List Int) : List (Int × List C) := xs.map fun x => (x, [.bool true])
theorem mpL_append (a b : List Int) : mpL (a ++ b) = mpL a ++ mpL b := by simp [mpL]
theorem mput_mem {x : Int} : ∀ {l : List Int}, x ∈ l → mput x [.bool true] (mpL l) = mpL l
  | a :: l, h => by
    show mput x _ ((a, [.bool true]) :: mpL l) = _
    unfold mput
    by_cases e : x = a
    · subst e; simp [mpL]
    · have hl : x ∈ l := by simpa [e] using h
      rw [if_neg (by simpa using e), mput_mem hl]; rfl
theorem mput_new {x : Int} : ∀ {l : List Int}, x ∉ l → mput x [.bool true] (mpL l) = mpL (l ++ [x])
  | [], _ => rfl
  | a :: l, h => by
    simp only [List.mem_cons, not_or] at h
    show mput x _ ((a, [.bool true]) :: mpL l) = _
    unfold mput
    rw [if_neg (by simpa using h.1), mput_new h.2]; rfl
theorem mlook_cons (a x : Int) (v : List C) (m : List (Int × List C)) (j : Nat) (z : C) : mlook ((a, v) :: m) x j z = if x = a then v.getD j .nil else mlook m x j z := by
  unfold mlook
  rw [mfind]
  by_cases e : x = a
  · rw [if_pos e, if_pos (by simpa using e)]
  · rw [if_neg e, if_neg (by simpa using e)]
theorem mlook_mpL (x : Int) : ∀ (l : List Int), (mlook (mpL l) x 0 (.bool false)).gb = decide (x ∈ l)
  | [] => rfl
  | a :: l => by
    show (mlook ((a, [.bool true]) :: mpL l) x 0 (.bool false)).gb = _
    rw [mlook_cons]
    by_cases e : x = a
    · rw [if_pos e]; simp [e, C.gb]
    · rw [if_neg e, mlook_mpL x l]; simp [e]
theorem mput_strip {e : Int} {ws : List Int} (h : ∀ w ∈ ws, 1 ≤ w) {n : Nat} (hn : n < ws.length) : mput (e + sumL (ws.take n) + ws.getD n 0) [.bool true] (mput (e + sumL (ws.take n)) [.bool true] (mpL (posT e ws n))) = mpL (posT e ws (n + 1)) := by
  have hw := h _ (getD_mem (d := 0) hn)
  rw [posT_up hn]
  by_cases h0 : n = 0
  · subst h0
    simp only [posT, if_pos, List.take_zero, sumL, Int.add_zero, if_true]
    rw [show mput e [.bool true] (mpL []) = mpL [e] from rfl, mput_new (fun q => by have := List.mem_singleton.1 q; omega)]
  · rw [if_neg h0, mput_mem (posT_left h0), mput_new]
    intro ha
    unfold posT at ha
    rw [if_neg h0] at ha
    have := posL_le (fun w hw => h w (mem_take hw)) _ ha
    omega
abbrev kMp : Bool × List LK := (false, [.mp .i64 false [.bool]])
abbrev sM (es : List (Int × List C)) : A := .c (.mp .i64 false [.bool] es)
def S24 : List A → List C := fun ds => match ds with
  | [.agg [.c (.int _ w), .c (.int _ e), .c (.int _ t), .c (.int _ k), .c (.sl _ xs)], .c (.sl _ c)] => [.mp .i64 false [.bool] (mpL (knL w e t k (prI xs) (prI c))), .int .i64 (fitsE w e t k (prI xs) (prI c))]
  | _ => []
theorem e24 (w e t k : Int) (ss c : List Int) : S24 [dk w e t k ss, sI (rowsI c)] = [.mp .i64 false [.bool] (mpL (knL w e t k ss c)), .int .i64 (fitsE w e t k ss c)] := by
  show [C.mp .i64 false [.bool] (mpL (knL w e t k (prI (rowsI ss)) (prI (rowsI c)))), C.int .i64 (fitsE w e t k (prI (rowsI ss)) (prI (rowsI c)))] = _
  rw [prI_rowsI, prI_rowsI]
theorem sum_take_le {ws : List Int} (h : ∀ w ∈ ws, 1 ≤ w ∧ w ≤ 12000) (n : Nat) : 0 ≤ sumL (ws.take n) ∧ sumL (ws.take n) ≤ 12000 * ws.length := by
  have key : ∀ l : List Int, (∀ w ∈ l, 1 ≤ w ∧ w ≤ 12000) → 0 ≤ sumL l ∧ sumL l ≤ 12000 * l.length := by
    intro l
    induction l with
    | nil => intro _; simp [sumL]
    | cons a l ih =>
      intro h
      have := ih fun w hw => h w (by simp [hw])
      have := h a (by simp)
      simp only [sumL, List.length_cons]
      push_cast
      omega
  have := key (ws.take n) fun w hw => h w (mem_take hw)
  have hl : (ws.take n).length ≤ ws.length := by simp; omega
  omega
def tbl24 : FuncId → List A → List C := fun f ds => match f with
  | 39 => S39 ds
  | _ => []
theorem pc24  {x1 : Int} {x2 : Int} {x3 : Int} {x4 : Int} {x5 : List (List C)} {x6 : List (List C)} {row : List C} (hS : S24 [.agg [.c (.int .i64 x1), .c (.int .i64 x2), .c (.int .i64 x3), .c (.int .i64 x4), .c (.sl [.int .i64] x5)], .c (.sl [.int .i64] x6)] = row) (h : vc24 (stdE Try.prog tbl24) x1 x2 x3 x4 x5 x6 fun c => c = row) : PCg Try.prog 24 S24 [(false, [.mp .i64 false [.bool]]), (false, [.int .i64])] [.agg [.c (.int .i64 x1), .c (.int .i64 x2), .c (.int .i64 x3), .c (.int .i64 x4), .c (.sl [.int .i64] x5)], .c (.sl [.int .i64] x6)] := PureC_vc mo h24 (by kernel_rfl) hS (w24  h)
theorem p24 (w e t k : Int) (ss : List Int) {c : List Int} (hc : c.length ≤ 1000000) : PCg Try.prog 24 S24 [kMp, kI] [dk w e t k ss, sI (rowsI c)] := by
  refine pc24 (e24 ..) ?_
  unfold vc24
  simp only [stdE, baseE, Br_iff, tbl24, forall_eq]
  simp only [p39 w e t k ss hc, true_and]
  simp only [e39, stV, List.getD_cons_zero, List.getD_cons_succ, gi_int, gl_sl, Bool.not_eq_true', Bool.not_eq_false', beq_iff_eq, beq_eq_false_iff_ne, decide_eq_true_eq, decide_eq_false_iff_not]
  refine ⟨fun h => ?_, fun h => ?_⟩
  · rw [knL, if_neg h]; rfl
  obtain ⟨hd, hf⟩ := fitsE_ok h
  obtain ⟨h1, h2, h3, h4⟩ := knL_ok h
  obtain ⟨ws, hws⟩ : ∃ ws, wsL c ss = ws := ⟨_, rfl⟩
  rw [hws] at h1 h2 h3 h4
  have w2 := hd.w2; have e0 := hd.e0; have e1 := hd.e1
  rw [if_pos h, knL, if_pos h, hws, h]
  simp only [row2_len, stL_len, row2_c0, row2_c1]
  refine LoopP2.run (x1 := []) (x2 := 0) (fun n : Nat => mpL (posT e ws n)) (fun n => (n : Int)) (fun n => n ≤ ws.length) (fun n => ws.length - n) 0 (Nat.zero_le _) rfl rfl ?_
  intro n hn K hK
  refine ⟨fun q => ⟨by omega, ?_⟩, fun q => ?_⟩
  · have hlt : n < ws.length := by omega
    have hb := sum_take_le h1 n
    have hw := h1 _ (getD_mem (d := 0) hlt)
    rw [toNat_cast, stL_get ws e hlt]
    dsimp only
    rw [wrap_in (n := e + sumL (ws.take n) + ws.getD n 0) (by omega) (by omega), mput_strip (fun x hx => (h1 x hx).1) hlt]
    exact hK _ _ (n + 1) hlt (by omega) rfl (wrap_up rfl (by omega))
  · have : n = ws.length := by omega
    subst this
    rw [posT, if_neg (by omega), List.take_length]
/-! ### How many move -/
def mvM (a b : List (Int × List C)) : Int := ((b.filter fun en => !(mlook a en.1 0 (.bool false)).gb).length : Int)
/-- How many of b are not in a. -/
def mvN (a b : List Int) : Int := ((b.filter fun x => decide (x ∉ a)).length : Int)
theorem mvM_mpL (a b : List Int) : mvM (mpL a) (mpL b) = mvN a b := by
  unfold mvM mvN
  congr 1
  induction b with
  | nil => rfl
  | cons x b ih =>
    show (List.filter _ ((x, [C.bool true]) :: mpL b)).length = _
    rw [List.filter_cons, List.filter_cons]
    have e1 : (!(mlook (mpL a) x 0 (.bool false)).gb) = decide (x ∉ a) := by rw [mlook_mpL]; simp
    simp only [e1]
    split <;> simp [ih]
def S28 : List A → List C := fun ds => match ds with
  | [.c (.mp _ _ _ a), .c (.mp _ _ _ b)] => [.int .i64 (mvM a b)]
  | _ => []
theorem e28 (a b : List Int) : S28 [sM (mpL a), sM (mpL b)] = [.int .i64 (mvN a b)] := by
  show [C.int .i64 (mvM (mpL a) (mpL b))] = _
  rw [mvM_mpL]
theorem erase_perm {α : Type} : ∀ {l : List α} {i : Nat} (h : i < l.length), (l[i] :: l.eraseIdx i).Perm l
  | [], i, h => by simp at h
  | a :: l, 0, _ => by simp
  | a :: l, i + 1, h => by
    have ih := erase_perm (l := l) (i := i) (by simpa using h)
    simp only [List.eraseIdx_cons_succ, List.getElem_cons_succ]
    exact (List.Perm.swap _ _ _).trans (ih.cons a)
theorem cnt_erase {α : Type} (p : α → Bool) (l : List α) {i : Nat} (h : i < l.length) : (l.filter p).length = ((l.eraseIdx i).filter p).length + if p l[i] then 1 else 0 := by
  have hp := ((erase_perm h).filter p).length_eq
  rw [List.filter_cons] at hp
  rw [← hp]
  split <;> simp
def tbl28 : FuncId → List A → List C := fun f ds => match f with
  | _ => []
theorem pc28  {x1 : List (Int × List C)} {x2 : List (Int × List C)} {row : List C} (hS : S28 [.c (.mp .i64 false [.bool] x1), .c (.mp .i64 false [.bool] x2)] = row) (h : vc28 (stdE Try.prog tbl28) x1 x2 fun c => c = row) : PCg Try.prog 28 S28 [(false, [.int .i64])] [.c (.mp .i64 false [.bool] x1), .c (.mp .i64 false [.bool] x2)] := PureC_vc mo h28 (by kernel_rfl) hS (w28  h)
theorem p28 (a : List Int) {b : List Int} (hb : b.length ≤ 1000000) : PCg Try.prog 28 S28 [kI] [sM (mpL a), sM (mpL b)] := by
  refine pc28 (row := [.int .i64 (mvM (mpL a) (mpL b))]) rfl ?_
  unfold vc28
  simp only [stdE, baseE, Br_iff]
  have hbl : (mpL b).length ≤ 1000000 := by simpa [mpL] using hb
  obtain ⟨p, hp⟩ : ∃ p : Int × List C → Bool, p = fun en => !(mlook (mpL a) en.1 0 (.bool false)).gb := ⟨_, rfl⟩
  have hmv : mvM (mpL a) (mpL b) = (((mpL b).filter p).length : Int) := by rw [hp]; rfl
  rw [hmv]
  refine ⟨fun left n => n + ((left.filter p).length : Int) = (((mpL b).filter p).length : Int) ∧ 0 ≤ n, ⟨by simp, Int.le_refl _⟩, fun n h => ?_, fun left n h i hi => ?_⟩
  · have := h.1; simp at this; rw [this]
  · have hc := cnt_erase p left hi
    have hle : ((mpL b).filter p).length ≤ (mpL b).length := List.length_filter_le _ _
    have hpi : p left[i] = !(mlook (mpL a) left[i].1 0 (.bool false)).gb := by rw [hp]
    rw [← hpi]
    refine ⟨fun q => ?_, fun q => ?_⟩
    · rw [if_pos q] at hc
      rw [wrap_in (by omega) (by omega)]
      exact ⟨by omega, by omega⟩
    · rw [if_neg (by rw [q]; simp)] at hc
      exact ⟨by omega, h.2⟩
/-! ### Knives -/
theorem sort25C : OnArr spSort [.int .i64] Try.prog 25 := sortC Try.sort25 (by kernel_rfl)
theorem ms_perm (w : List Int) : (w.mergeSort fun x y => decide (x ≤ y)).Perm w := List.mergeSort_perm _ _
theorem ms_sorted (w : List Int) : (w.mergeSort fun x y => decide (x ≤ y)).Pairwise (· ≤ ·) := by
  have := List.pairwise_mergeSort (le := fun x y : Int => decide (x ≤ y)) (fun a b c h1 h2 => by simp at h1 h2 ⊢; omega) (fun a b => by simp; omega) w
  exact this.imp fun h => by simpa using h
theorem sorted_eq : ∀ {l m : List Int}, l.Perm m → l.Pairwise (· ≤ ·) → m.Pairwise (· ≤ ·) → l = m := fun h h1 h2 => h.eq_of_pairwise (fun a b _ _ q1 q2 => by omega) h1 h2
def knV (w e t k : Int) (ss c : List Int) : List C := [.sl [.int .i64] (rowsI (knL w e t k ss c)), .int .i64 (fitsE w e t k ss c)]
def sKn : List A → List C := fun ds => match ds with
  | [.agg [.c (.int _ w), .c (.int _ e), .c (.int _ t), .c (.int _ k), .c (.sl _ xs)], .c (.sl _ c)] => knV w e t k (prI xs) (prI c)
  | _ => []
def S12 : List A → List C := sKn
def S13 : List A → List C := sKn
theorem e12 (w e t k : Int) (ss c : List Int) : S12 [dk w e t k ss, sI (rowsI c)] = knV w e t k ss c := by
  show knV w e t k (prI (rowsI ss)) (prI (rowsI c)) = _
  rw [prI_rowsI, prI_rowsI]
theorem e13 (w e t k : Int) (ss c : List Int) : S13 [dk w e t k ss, sI (rowsI c)] = knV w e t k ss c := e12 w e t k ss c
theorem knV_err {w e t k : Int} {ss c : List Int} (h : fitsE w e t k ss c ≠ 0) : knV w e t k ss c = [.sl [.int .i64] [], .int .i64 (fitsE w e t k ss c)] := by
  rw [knV, knL, if_neg h]; rfl
def tbl12 : FuncId → List A → List C := fun f ds => match f with
  | 24 => S24 ds
  | _ => []
theorem pc12 (ce25 : OnArr spSort [.int .i64] Try.prog 25) {x1 : Int} {x2 : Int} {x3 : Int} {x4 : Int} {x5 : List (List C)} {x6 : List (List C)} {row : List C} (hS : S12 [.agg [.c (.int .i64 x1), .c (.int .i64 x2), .c (.int .i64 x3), .c (.int .i64 x4), .c (.sl [.int .i64] x5)], .c (.sl [.int .i64] x6)] = row) (h : vc12 (stdE Try.prog tbl12) x1 x2 x3 x4 x5 x6 fun c => c = row) : PCg Try.prog 12 S12 [(false, [.sl [.int .i64]]), (false, [.int .i64])] [.agg [.c (.int .i64 x1), .c (.int .i64 x2), .c (.int .i64 x3), .c (.int .i64 x4), .c (.sl [.int .i64] x5)], .c (.sl [.int .i64] x6)] := PureC_vc mo h12 (by kernel_rfl) hS (w12 ce25 h)
theorem p12 (w e t k : Int) (ss : List Int) {c : List Int} (hc : c.length ≤ 1000000) : PCg Try.prog 12 S12 [kL, kI] [dk w e t k ss, sI (rowsI c)] := by
  refine pc12 sort25C (e12 ..) ?_
  unfold vc12 spSort
  simp only [stdE, baseE, Br_iff, tbl12, forall_eq]
  simp only [p24 w e t k ss hc, true_and]
  simp only [e24, List.getD_cons_zero, List.getD_cons_succ, gi_int, gm_mp, Bool.not_eq_true', Bool.not_eq_false', beq_iff_eq, beq_eq_false_iff_ne, decide_eq_true_eq, decide_eq_false_iff_not]
  refine ⟨fun h => (knV_err h).symm, fun h => ?_⟩
  obtain ⟨q1, q2⟩ := knL_lt w e t k ss c
  obtain ⟨xs, hxs⟩ : ∃ xs, knL w e t k ss c = xs := ⟨_, rfl⟩
  rw [knV, h]
  rw [hxs] at q1 q2 ⊢
  refine ⟨fun left l => ∃ zs : List Int, l = rowsI zs ∧ (zs ++ left.map (·.1)).Perm xs, ⟨[], rfl, ?_⟩, fun l ⟨zs, h1, h2⟩ => ?_, fun left l ⟨zs, h1, h2⟩ i hi => ?_⟩
  · simp [mpL, Function.comp_def]
  · simp at h2
    have hl := h2.length_eq
    refine ⟨zs, h1.symm, by omega, ?_⟩
    rw [sorted_eq ((ms_perm zs).trans h2) (ms_sorted zs) (q1.imp fun h => by omega)]
  · have hl := h2.length_eq
    simp at hl
    subst h1
    refine ⟨by rw [rowsI_len]; simp; omega, zs ++ [left[i].1], by rw [rowsI_append]; rfl, ?_⟩
    have hp := ((erase_perm hi).map (·.1)).append_left zs
    rw [List.map_cons] at hp
    rw [List.append_assoc, List.singleton_append]
    exact hp.trans h2
def tbl13 : FuncId → List A → List C := fun f ds => match f with
  | 26 => S26 ds
  | 27 => S27 ds
  | _ => []
theorem pc13  {x1 : Int} {x2 : Int} {x3 : Int} {x4 : Int} {x5 : List (List C)} {x6 : List (List C)} {row : List C} (hS : S13 [.agg [.c (.int .i64 x1), .c (.int .i64 x2), .c (.int .i64 x3), .c (.int .i64 x4), .c (.sl [.int .i64] x5)], .c (.sl [.int .i64] x6)] = row) (h : vc13 (stdE Try.prog tbl13) x1 x2 x3 x4 x5 x6 fun c => c = row) : PCg Try.prog 13 S13 [(false, [.sl [.int .i64]]), (false, [.int .i64])] [.agg [.c (.int .i64 x1), .c (.int .i64 x2), .c (.int .i64 x3), .c (.int .i64 x4), .c (.sl [.int .i64] x5)], .c (.sl [.int .i64] x6)] := PureC_vc mo h13 (by kernel_rfl) hS (w13  h)
theorem p13 (w e t k : Int) (ss : List Int) {c : List Int} (hc : c.length ≤ 1000000) : PCg Try.prog 13 S13 [kL, kI] [dk w e t k ss, sI (rowsI c)] := by
  refine pc13 (e13 ..) ?_
  unfold vc13
  simp only [stdE, baseE, Br_iff, tbl13, forall_eq]
  simp only [p26 w e t k ss hc, true_and]
  simp only [e26, stV, List.getD_cons_zero, List.getD_cons_succ, gi_int, gl_sl, Bool.not_eq_true', Bool.not_eq_false', beq_iff_eq, beq_eq_false_iff_ne, decide_eq_true_eq, decide_eq_false_iff_not]
  refine ⟨fun h => (knV_err h).symm, fun h => ?_⟩
  obtain ⟨hd, hf⟩ := fitsE_ok h
  obtain ⟨h1, h2, h3, h4⟩ := knL_ok h
  obtain ⟨ws, hws⟩ : ∃ ws, wsL c ss = ws := ⟨_, rfl⟩
  rw [hws] at h1 h2 h3 h4
  have w2 := hd.w2; have e0 := hd.e0; have e1 := hd.e1
  rw [if_pos h, knV, knL, if_pos h, hws, h]
  simp only [row2_len, stL_len, row2_c0, row2_c1]
  refine LoopP2.run (x1 := []) (x2 := 0) (fun n : Nat => rowsI (posT e ws n)) (fun n => (n : Int)) (fun n => n ≤ ws.length) (fun n => ws.length - n) 0 (Nat.zero_le _) rfl rfl ?_
  intro n hn K hK
  have hpl : (posT e ws n).length ≤ 13 := by
    unfold posT
    split
    · simp
    · rw [posL_len]; simp; omega
  refine ⟨fun q => ⟨by omega, p27 (by omega) _, ?_⟩, fun q => ?_⟩
  · have hlt : n < ws.length := by omega
    have hb := sum_take_le h1 n
    have hw := h1 _ (getD_mem (d := 0) hlt)
    rw [toNat_cast, stL_get ws e hlt]
    dsimp only
    rw [e27, List.getD_cons_zero, gl_sl]
    have hpl2 := putL_le (e + sumL (ws.take n)) (posT e ws n)
    refine ⟨p27 (by omega) _, ?_⟩
    rw [wrap_in (n := e + sumL (ws.take n) + ws.getD n 0) (by omega) (by omega), e27, List.getD_cons_zero, gl_sl, put_strip (fun x hx => (h1 x hx).1) hlt]
    exact hK _ _ (n + 1) hlt (by omega) rfl (wrap_up rfl (by omega))
  · have : n = ws.length := by omega
    subst this
    rw [posT, if_neg (by omega), List.take_length]
/-! ### Moves -/
def lkN (a b : List Int) : Int := ((b.filter fun x => decide (a.length < (putL x a).length)).length : Int)
theorem lkN_mvN {a : List Int} (h : a.Pairwise (· < ·)) (b : List Int) : lkN a b = mvN a b := by
  unfold lkN mvN
  congr 2
  refine List.filter_congr fun x _ => ?_
  rw [putL_len h]
  by_cases q : x ∈ a <;> simp [q]
def S29 : List A → List C := fun ds => match ds with
  | [.c (.sl _ a), .c (.sl _ b)] => [.int .i64 (lkN (prI a) (prI b))]
  | _ => []
theorem e29 {a : List Int} (h : a.Pairwise (· < ·)) (b : List Int) : S29 [sI (rowsI a), sI (rowsI b)] = [.int .i64 (mvN a b)] := by
  show [C.int .i64 (lkN (prI (rowsI a)) (prI (rowsI b)))] = _
  rw [prI_rowsI, prI_rowsI, lkN_mvN h]
def tbl29 : FuncId → List A → List C := fun f ds => match f with
  | 27 => S27 ds
  | _ => []
theorem pc29  {x1 : List (List C)} {x2 : List (List C)} {row : List C} (hS : S29 [.c (.sl [.int .i64] x1), .c (.sl [.int .i64] x2)] = row) (h : vc29 (stdE Try.prog tbl29) x1 x2 fun c => c = row) : PCg Try.prog 29 S29 [(false, [.int .i64])] [.c (.sl [.int .i64] x1), .c (.sl [.int .i64] x2)] := PureC_vc mo h29 (by kernel_rfl) hS (w29  h)
theorem p29 {a : List Int} (h : a.Pairwise (· < ·)) (ha : a.length ≤ 1000000) {b : List Int} (hb : b.length ≤ 1000000) : PCg Try.prog 29 S29 [kI] [sI (rowsI a), sI (rowsI b)] := by
  refine pc29 (e29 h b) ?_
  unfold vc29
  simp only [stdE, baseE, Br_iff, tbl29, forall_eq, rowsI_len, rowsI_getD]
  obtain ⟨p, hp⟩ : ∃ p : Int → Bool, p = fun x => decide (x ∉ a) := ⟨_, rfl⟩
  have hmv : mvN a b = ((b.filter p).length : Int) := by rw [hp]; rfl
  rw [hmv]
  refine LoopP2.run (x1 := 0) (x2 := 0) (fun n : Nat => (((b.take n).filter p).length : Int)) (fun n => (n : Int)) (fun n => n ≤ b.length) (fun n => b.length - n) 0 (Nat.zero_le _) (by simp) rfl ?_
  intro n hn K hK
  simp only [p27 ha, true_and]
  simp only [e27, List.getD_cons_zero, gl_sl, rowsI_len, putL_len h, toNat_cast, decide_eq_true_eq, decide_eq_false_iff_not]
  refine ⟨fun q => ⟨by omega, ?_⟩, fun q => ?_⟩
  · have hlt : n < b.length := by omega
    have hf := filter_take p b 0 hlt
    have hle : ((b.take n).filter p).length ≤ n := by
      have := List.length_filter_le p (b.take n); simp at this; omega
    have hpn : p (b.getD n 0) = decide (b.getD n 0 ∉ a) := by rw [hp]
    by_cases hm : b.getD n 0 ∈ a
    · rw [if_pos hm]
      refine ⟨fun q2 => by omega, fun _ => hK _ _ (n + 1) hlt (by omega) ?_ (wrap_up rfl (by omega))⟩
      rw [hf, if_neg (by rw [hpn]; exact fun q => of_decide_eq_true q hm), List.append_nil]
    · rw [if_neg hm]
      refine ⟨fun _ => hK _ _ (n + 1) hlt (by omega) ?_ (wrap_up rfl (by omega)), fun q2 => by omega⟩
      rw [hf, if_pos (by rw [hpn]; exact decide_eq_true hm), wrap_in (by omega) (by omega), List.length_append, List.length_singleton]; push_cast; omega
  · have : n = b.length := by omega
    subst this
    rw [List.take_length]
def mvE (w e t k : Int) (ss a b : List Int) : Int := if fitsE w e t k ss a ≠ 0 then fitsE w e t k ss a else fitsE w e t k ss b
def mvV (w e t k : Int) (ss a b : List Int) : List C := [.int .i64 (if mvE w e t k ss a b = 0 then mvN (knL w e t k ss a) (knL w e t k ss b) else 0), .int .i64 (mvE w e t k ss a b)]
def sMv : List A → List C := fun ds => match ds with
  | [.agg [.c (.int _ w), .c (.int _ e), .c (.int _ t), .c (.int _ k), .c (.sl _ xs)], .c (.sl _ a), .c (.sl _ b)] => mvV w e t k (prI xs) (prI a) (prI b)
  | _ => []
def S15 : List A → List C := sMv
def S16 : List A → List C := sMv
theorem e15 (w e t k : Int) (ss a b : List Int) : S15 [dk w e t k ss, sI (rowsI a), sI (rowsI b)] = mvV w e t k ss a b := by
  show mvV w e t k (prI (rowsI ss)) (prI (rowsI a)) (prI (rowsI b)) = _
  rw [prI_rowsI, prI_rowsI, prI_rowsI]
theorem e16 (w e t k : Int) (ss a b : List Int) : S16 [dk w e t k ss, sI (rowsI a), sI (rowsI b)] = mvV w e t k ss a b := e15 w e t k ss a b
def tbl15 : FuncId → List A → List C := fun f ds => match f with
  | 24 => S24 ds
  | 28 => S28 ds
  | _ => []
theorem pc15  {x1 : Int} {x2 : Int} {x3 : Int} {x4 : Int} {x5 : List (List C)} {x6 : List (List C)} {x7 : List (List C)} {row : List C} (hS : S15 [.agg [.c (.int .i64 x1), .c (.int .i64 x2), .c (.int .i64 x3), .c (.int .i64 x4), .c (.sl [.int .i64] x5)], .c (.sl [.int .i64] x6), .c (.sl [.int .i64] x7)] = row) (h : vc15 (stdE Try.prog tbl15) x1 x2 x3 x4 x5 x6 x7 fun c => c = row) : PCg Try.prog 15 S15 [(false, [.int .i64]), (false, [.int .i64])] [.agg [.c (.int .i64 x1), .c (.int .i64 x2), .c (.int .i64 x3), .c (.int .i64 x4), .c (.sl [.int .i64] x5)], .c (.sl [.int .i64] x6), .c (.sl [.int .i64] x7)] := PureC_vc mo h15 (by kernel_rfl) hS (w15  h)
def tbl16 : FuncId → List A → List C := fun f ds => match f with
  | 13 => S13 ds
  | 29 => S29 ds
  | _ => []
theorem pc16  {x1 : Int} {x2 : Int} {x3 : Int} {x4 : Int} {x5 : List (List C)} {x6 : List (List C)} {x7 : List (List C)} {row : List C} (hS : S16 [.agg [.c (.int .i64 x1), .c (.int .i64 x2), .c (.int .i64 x3), .c (.int .i64 x4), .c (.sl [.int .i64] x5)], .c (.sl [.int .i64] x6), .c (.sl [.int .i64] x7)] = row) (h : vc16 (stdE Try.prog tbl16) x1 x2 x3 x4 x5 x6 x7 fun c => c = row) : PCg Try.prog 16 S16 [(false, [.int .i64]), (false, [.int .i64])] [.agg [.c (.int .i64 x1), .c (.int .i64 x2), .c (.int .i64 x3), .c (.int .i64 x4), .c (.sl [.int .i64] x5)], .c (.sl [.int .i64] x6), .c (.sl [.int .i64] x7)] := PureC_vc mo h16 (by kernel_rfl) hS (w16  h)
theorem p15 (w e t k : Int) (ss : List Int) {a b : List Int} (ha : a.length ≤ 1000000) (hb : b.length ≤ 1000000) : PCg Try.prog 15 S15 [kI, kI] [dk w e t k ss, sI (rowsI a), sI (rowsI b)] := by
  refine pc15 (e15 ..) ?_
  unfold vc15
  simp only [stdE, baseE, Br_iff, tbl15, forall_eq]
  simp only [p24 w e t k ss ha, p24 w e t k ss hb, true_and]
  simp only [e24, List.getD_cons_zero, List.getD_cons_succ, gi_int, gm_mp, Bool.not_eq_true', Bool.not_eq_false', beq_iff_eq, beq_eq_false_iff_ne]
  have q2 := (knL_lt w e t k ss b).2
  refine ⟨fun h => ?_, fun h => ⟨fun h2 => ?_, fun h2 => ⟨p28 _ (by omega), ?_⟩⟩⟩
  · have hE : mvE w e t k ss a b = fitsE w e t k ss a := by rw [mvE, if_pos h]
    rw [mvV, hE, if_neg h]
  · have hE : mvE w e t k ss a b = fitsE w e t k ss b := by rw [mvE, if_neg (fun q => q h)]
    rw [mvV, hE, if_neg h2]
  · have hE : mvE w e t k ss a b = fitsE w e t k ss b := by rw [mvE, if_neg (fun q => q h)]
    rw [e28, mvV, hE, if_pos h2, h2]; rfl
theorem p16 (w e t k : Int) (ss : List Int) {a b : List Int} (ha : a.length ≤ 1000000) (hb : b.length ≤ 1000000) : PCg Try.prog 16 S16 [kI, kI] [dk w e t k ss, sI (rowsI a), sI (rowsI b)] := by
  refine pc16 (e16 ..) ?_
  unfold vc16
  simp only [stdE, baseE, Br_iff, tbl16, forall_eq]
  simp only [p13 w e t k ss ha, p13 w e t k ss hb, true_and]
  simp only [e13, knV, List.getD_cons_zero, List.getD_cons_succ, gi_int, gl_sl, Bool.not_eq_true', Bool.not_eq_false', beq_iff_eq, beq_eq_false_iff_ne]
  obtain ⟨q1, q2⟩ := knL_lt w e t k ss a
  have q3 := (knL_lt w e t k ss b).2
  refine ⟨fun h => ?_, fun h => ⟨fun h2 => ?_, fun h2 => ⟨p29 q1 (by omega) (by omega), ?_⟩⟩⟩
  · have hE : mvE w e t k ss a b = fitsE w e t k ss a := by rw [mvE, if_pos h]
    rw [mvV, hE, if_neg h]
  · have hE : mvE w e t k ss a b = fitsE w e t k ss b := by rw [mvE, if_neg (fun q => q h)]
    rw [mvV, hE, if_neg h2]
  · have hE : mvE w e t k ss a b = fitsE w e t k ss b := by rw [mvE, if_neg (fun q => q h)]
    rw [e29 q1, mvV, hE, if_pos h2, h2]; rfl
end Go.Proofs.Ytjmgphobpgajbaa.V
