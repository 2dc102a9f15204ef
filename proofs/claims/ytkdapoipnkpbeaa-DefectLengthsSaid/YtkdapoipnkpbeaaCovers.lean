/- Rectangles: Cover. No conditions. -/
import Derived.Test.YtkdapoipnkpbeaaCount
set_option linter.unusedVariables false
set_option linter.unusedSimpArgs false
namespace Go.Proofs.Ytkdapoipnkpbeaa
open Go Go.Eng Go.Span
set_option maxRecDepth 1000000
set_option maxHeartbeats 1000000
def covV (xs : List (List C)) : Int := if allE xs = 0 then covN (prr xs) else 0
def tb5 (f : FuncId) (ds : List A) : List C :=
  match ds with
  | [.c (.sl _ xs)] => match f with
    | 52 => [.int .i64 (covN (prr xs))]
    | 40 => [.int .i64 (covV xs), .int .i64 (allE xs)]
    | _ => tb4 f ds
  | _ => tb4 f ds
abbrev PC5 (f : FuncId) (rty : List (Bool × List LK)) (ds : List A) : Prop := PureC Try.prog f rty ds fun i => (tb5 f ds).getD i .nil
structure WP5 (f : RFn) (rty : List (Bool × List LK)) (l : List C) (ds : List A) : Prop where
  h : f.body.wp Try.prog (stdE Try.prog tb5) 0 (finP (stdE Try.prog tb5) (getL l) rty f.results) ⟨ds ++ List.replicate (f.ntmps - ds.length) .u, []⟩
theorem pc5_of {D : Opts} {f : FuncId} {rf : RFn} {rty : List (Bool × List LK)} {ds : List A} (h : fnR Try.prog D f = some rf) (hn : ((Try.prog.funcs[f]?).map (·.name == "runtime.NumGoroutine")).getD true = false)
    {l : List C} (hl : tb5 f ds = l) (hw : WP5 rf rty l ds) : PC5 f rty ds := by
  have e : (fun i => (tb5 f ds).getD i .nil) = getL l := by rw [hl]; rfl
  show PureC _ _ _ _ (fun i => (tb5 f ds).getD i .nil)
  rw [e]
  exact PureC_fn tb5 mo h hn hw.h
theorem v37 (rs : List R4) : tb5 52 [lC (rowsR rs)] = [.int .i64 (covN rs)] := by
  show [C.int .i64 (covN (prr (rowsR rs)))] = _
  rw [prr_rowsR]
theorem k37 {rs : List R4} (hl : rs.length ≤ 64) (hr : ∀ r ∈ rs, okR r) : PC5 52 [kI] [lC (rowsR rs)] := by
  have e : (fun i => (tb5 52 [lC (rowsR rs)]).getD i .nil) = getL [.int .i64 (covN rs)] := by rw [v37]; rfl
  show PureC _ _ _ _ (fun i => (tb5 52 [lC (rowsR rs)]).getD i .nil)
  rw [e]
  exact PureC_fn tb4 mo h52 (by kernel_rfl) (x37 rfl hl hr rfl).h
theorem v36 (xs : List (List C)) : tb5 51 [lC xs] = [.int .i64 (allE xs)] := rfl
theorem k36 {xs : List (List C)} (hl : xs.length ≤ 9223372036854775807) : PC5 51 [kI] [lC xs] := d36 hl
theorem chk_okR {r : R4} (h : chk r.1 r.2.1 r.2.2.1 r.2.2.2 = 0) : okR r := by
  unfold chk at h
  unfold okR
  split at h
  · cases h
  · omega
theorem firstE_zero {xs : List (List C)} : ∀ k i, xs.length - i = k → firstE xs i = 0 → ∀ j, i ≤ j → j < xs.length → chkAt xs j = 0 := by
  intro k
  induction k with
  | zero => intro i h _ j h1 h2; omega
  | succ k ih =>
    intro i h h0 j h1 h2
    rw [firstE_lt (by omega)] at h0
    split at h0
    · rename_i hc
      by_cases hij : j = i
      · subst hij; exact hc
      · exact ih (i + 1) (by omega) h0 j (by omega) h2
    · rename_i hc; exact absurd h0 hc
theorem allE_ok {rs : List R4} (h : allE (rowsR rs) = 0) : rs.length ≤ 64 ∧ ∀ r ∈ rs, okR r := by
  unfold allE at h
  split at h
  · cases h
  · rename_i hl
    rw [rowsR_len] at hl
    refine ⟨by omega, fun r hr => ?_⟩
    obtain ⟨i, hi, rfl⟩ := List.mem_iff_getElem.1 hr
    have := firstE_zero _ 0 rfl h i (Nat.zero_le _) (by rw [rowsR_len]; exact hi)
    obtain ⟨q0, q1, q2, q3⟩ := rowsR_getD rs i
    have hg : rs.getD i (0, 0, 0, 0) = rs[i] := by simp [List.getD, hi]
    rw [hg] at q0 q1 q2 q3
    unfold chkAt ce at this
    rw [q0, q1, q2, q3] at this
    exact chk_okR this
theorem v12 (rs : List R4) : tb5 40 [lC (rowsR rs)] = [.int .i64 (if allE (rowsR rs) = 0 then covN rs else 0), .int .i64 (allE (rowsR rs))] := by
  show [C.int .i64 (if allE (rowsR rs) = 0 then covN (prr (rowsR rs)) else 0), .int .i64 (allE (rowsR rs))] = _
  rw [prr_rowsR]
theorem x12 {rs : List R4} {xs : List (List C)} {n e : Int} (hx : rowsR rs = xs) (hl : rs.length ≤ 1000000) (he : allE (rowsR rs) = e) (hn : (if allE (rowsR rs) = 0 then covN rs else 0) = n) : WP5 rf40 [kI, kI] [.int .i64 n, .int .i64 e] [lC xs] := by
  have k1 := k36 (xs := xs) (by rw [← hx, rowsR_len]; omega)
  have k2 : allE xs = 0 → PC5 52 [kI] [lC xs] ∧ tb5 52 [lC xs] = [.int .i64 (covN rs)] := fun h => by
    rw [← hx] at h ⊢
    obtain ⟨h1, h2⟩ := allE_ok h
    exact ⟨k37 h1 h2, v37 rs⟩
  rw [hx] at he hn
  refine ⟨?_⟩
  generalize hE : stdE Try.prog tb5 = E
  cbv
  subst hE
  simp only [stdE, baseE, Br_iff]
  simp only [k1, true_and]
  simp only [v36, List.getD_cons_zero, gi_int, he]
  rw [he] at hn k2
  refine ⟨fun h => ?_, fun h => ?_⟩
  · have h' : ¬ e = 0 := by simpa using h
    rw [if_neg h'] at hn
    rw [hn]
    exact ⟨rfl, trivial, trivial⟩
  · have h' : e = 0 := by simpa using h
    obtain ⟨a, b⟩ := k2 h'
    rw [if_pos h'] at hn
    refine ⟨a, ?_, by rw [h'], trivial⟩
    rw [b, ← hn]
    rfl
theorem k12 {rs : List R4} (hl : rs.length ≤ 1000000) : PC5 40 [kI, kI] [lC (rowsR rs)] := pc5_of h40 (by kernel_rfl) (v12 rs) (x12 rfl hl rfl rfl)
/-- Rows i and k have points in common. -/
def hit (xs : List (List C)) (i k : Nat) : Bool := comI (ce xs i 0) (ce xs i 1) (ce xs i 2) (ce xs i 3) (ce xs k 0) (ce xs k 1) (ce xs k 2) (ce xs k 3)
def innF (xs : List (List C)) (i k : Nat) : Bool := if k < i then (if hit xs i k then false else innF xs i (k + 1)) else true
termination_by i - k
theorem innF_lt {xs : List (List C)} {i k : Nat} (h : k < i) : innF xs i k = if hit xs i k then false else innF xs i (k + 1) := by rw [innF, if_pos h]
theorem innF_ge {xs : List (List C)} {i k : Nat} (h : ¬ k < i) : innF xs i k = true := by rw [innF, if_neg h]
def outF (xs : List (List C)) (i : Nat) : Bool := if i < xs.length then (if innF xs i 0 then outF xs (i + 1) else false) else true
termination_by xs.length - i
theorem outF_lt {xs : List (List C)} {i : Nat} (h : i < xs.length) : outF xs i = if innF xs i 0 then outF xs (i + 1) else false := by rw [outF, if_pos h]
theorem outF_ge {xs : List (List C)} {i : Nat} (h : ¬ i < xs.length) : outF xs i = true := by rw [outF, if_neg h]
def disL (xs : List (List C)) : Bool := outF xs 0
def tb6 (f : FuncId) (ds : List A) : List C :=
  match ds with
  | [.c (.sl _ xs)] => match f with
    | _ => tb5 f ds
  | _ => tb5 f ds
abbrev PC6 (f : FuncId) (rty : List (Bool × List LK)) (ds : List A) : Prop := PureC Try.prog f rty ds fun i => (tb6 f ds).getD i .nil
structure WP6 (f : RFn) (rty : List (Bool × List LK)) (l : List C) (ds : List A) : Prop where
  h : f.body.wp Try.prog (stdE Try.prog tb6) 0 (finP (stdE Try.prog tb6) (getL l) rty f.results) ⟨ds ++ List.replicate (f.ntmps - ds.length) .u, []⟩
theorem pc6_of {D : Opts} {f : FuncId} {rf : RFn} {rty : List (Bool × List LK)} {ds : List A} (h : fnR Try.prog D f = some rf) (hn : ((Try.prog.funcs[f]?).map (·.name == "runtime.NumGoroutine")).getD true = false)
    {l : List C} (hl : tb6 f ds = l) (hw : WP6 rf rty l ds) : PC6 f rty ds := by
  have e : (fun i => (tb6 f ds).getD i .nil) = getL l := by rw [hl]; rfl
  show PureC _ _ _ _ (fun i => (tb6 f ds).getD i .nil)
  rw [e]
  exact PureC_fn tb6 mo h hn hw.h
theorem w29 (l r a b l' r' a' b' : Int) : tb6 29 [rc l r a b, rc l' r' a' b'] = [zs (comE l r a b l' r' a' b') (mx l l'), zs (comE l r a b l' r' a' b') (mn r r'), zs (comE l r a b l' r' a' b') (mx a a'), zs (comE l r a b l' r' a' b') (mn b b'), .bool (comI l r a b l' r' a' b')] := rfl
theorem m28 (l r a b l' r' a' b' : Int) : PC6 29 [kR, kB] [rc l r a b, rc l' r' a' b'] := c28 l r a b l' r' a' b'
--MORE
end Go.Proofs.Ytkdapoipnkpbeaa
