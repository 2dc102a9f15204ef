/- Rectangles: lists of them: the first error, clipping, comparing. No conditions. -/
import Derived.Test.YtkdapoipnkpbeaaPairs
set_option linter.unusedVariables false
set_option linter.unusedSimpArgs false
namespace Go.Proofs.Ytkdapoipnkpbeaa
open Go Go.Eng
set_option maxRecDepth 1000000
set_option maxHeartbeats 1000000
/-- papermill papermillref15.list -/
def rf55 : RFn := ⟨(.seq (.ops 0 [⟨(some 2), (.v (.mv (.k (.c (.int .i64 0))))), none, []⟩]) (.seq (.seq (.ops 0 [⟨(some 5), (.v (.mv (.t 0))), none, []⟩, ⟨(some 6), (.v (.lenS (.t 5))), none, []⟩, ⟨(some 7), (.v (.bin .gtr (.t 6) (.k (.c (.int .i64 64))))), none, []⟩]) (.cond (.t 7) (.seq (.ops 0 [⟨(some 2), (.v (.mv (.k (.c (.int .i64 8))))), none, []⟩]) .ret) .skip)) (.seq (.seq (.ops 0 [⟨(some 3), (.v (.mv (.k (.c (.int .i64 0))))), none, []⟩]) (.block 0 (.loop (.seq (.seq (.ops 0 [⟨(some 8), (.v (.mv (.t 3))), none, []⟩, ⟨(some 9), (.v (.mv (.t 0))), none, []⟩, ⟨(some 10), (.v (.lenS (.t 9))), none, []⟩, ⟨(some 11), (.v (.bin .lss (.t 8) (.t 10))), none, []⟩]) (.cond (.t 11) .skip (.exit 0))) (.seq (.block 1 (.seq (.ops 0 [⟨(some 14), (.v (.mv (.t 0))), none, []⟩, ⟨(some 15), (.v (.mv (.t 3))), none, []⟩, ⟨(some 16), (.v (.ia 4 (.t 14) (.t 15))), none, []⟩, ⟨(some 17), (.v (.lda 4 (.t 16))), none, []⟩, ⟨(some 18), (.v (.det 38 [⟨false, [(.int .i64)]⟩] [(.t 17)])), none, []⟩, ⟨(some 4), (.v (.mv (.t 18))), none, []⟩]) (.seq (.ops 0 [⟨(some 19), (.v (.mv (.t 4))), none, []⟩, ⟨(some 20), (.v (.bin .neq (.t 19) (.k (.c (.int .i64 0))))), none, []⟩]) (.cond (.t 20) (.seq (.ops 0 [⟨(some 21), (.v (.mv (.t 4))), none, []⟩, ⟨(some 2), (.v (.mv (.t 21))), none, []⟩]) .ret) .skip)))) (.ops 0 [⟨(some 12), (.v (.mv (.t 3))), none, []⟩, ⟨(some 13), (.v (.bin .add (.t 12) (.k (.c (.int .i64 1))))), none, []⟩, ⟨(some 3), (.v (.mv (.t 13))), none, []⟩])))))) (.seq (.ops 0 [⟨(some 2), (.v (.mv (.k (.c (.int .i64 0))))), none, []⟩]) .ret)))), 22, [(.t 2)]⟩
theorem h55 : fnR Try.prog DD 55 = some rf55 := by kernel_rfl
abbrev i4 : List LK := [.int .i64, .int .i64, .int .i64, .int .i64]
/-- Number j of row i. -/
def ce (xs : List (List C)) (i j : Nat) : Int := (cellAt xs i j).gi
def chkAt (xs : List (List C)) (i : Nat) : Int := chk (ce xs i 0) (ce xs i 1) (ce xs i 2) (ce xs i 3)
/-- The first error from row i on. -/
def firstE (xs : List (List C)) (i : Nat) : Int := if i < xs.length then (if chkAt xs i = 0 then firstE xs (i + 1) else chkAt xs i) else 0
termination_by xs.length - i
theorem firstE_lt {xs : List (List C)} {i : Nat} (h : i < xs.length) : firstE xs i = if chkAt xs i = 0 then firstE xs (i + 1) else chkAt xs i := by rw [firstE, if_pos h]
theorem firstE_ge {xs : List (List C)} {i : Nat} (h : ¬ i < xs.length) : firstE xs i = 0 := by rw [firstE, if_neg h]
def allE (xs : List (List C)) : Int := if 64 < xs.length then 8 else firstE xs 0
abbrev lC (xs : List (List C)) : A := .c (.sl i4 xs)
def comAt (xs : List (List C)) (l r a b : Int) (i : Nat) : List C :=
  [zs (comE (ce xs i 0) (ce xs i 1) (ce xs i 2) (ce xs i 3) l r a b) (mx (ce xs i 0) l), zs (comE (ce xs i 0) (ce xs i 1) (ce xs i 2) (ce xs i 3) l r a b) (mn (ce xs i 1) r),
   zs (comE (ce xs i 0) (ce xs i 1) (ce xs i 2) (ce xs i 3) l r a b) (mx (ce xs i 2) a), zs (comE (ce xs i 0) (ce xs i 1) (ce xs i 2) (ce xs i 3) l r a b) (mn (ce xs i 3) b)]
def isAt (xs : List (List C)) (l r a b : Int) (i : Nat) : Bool := comI (ce xs i 0) (ce xs i 1) (ce xs i 2) (ce xs i 3) l r a b
/-- The common parts of the first i rows with a rectangle, those that have points. -/
def clipTo (xs : List (List C)) (l r a b : Int) : Nat → List (List C)
  | 0 => []
  | i + 1 => clipTo xs l r a b i ++ (if isAt xs l r a b i then [comAt xs l r a b i] else [])
theorem clipTo_len (xs : List (List C)) (l r a b : Int) : ∀ i, (clipTo xs l r a b i).length ≤ i
  | 0 => Nat.le_refl _
  | i + 1 => by
    have := clipTo_len xs l r a b i
    simp only [clipTo, List.length_append]
    split <;> simp <;> omega
def clipE (xs : List (List C)) (l r a b : Int) : Int := if chk l r a b = 0 then allE xs else chk l r a b
def clipL (xs : List (List C)) (l r a b : Int) : List (List C) := if clipE xs l r a b = 0 then clipTo xs l r a b xs.length else []
/-- The rows agree from i on. -/
def rowEq (xs ys : List (List C)) (i : Nat) : Bool := (ce xs i 0 == ce ys i 0) && ((ce xs i 1 == ce ys i 1) && ((ce xs i 2 == ce ys i 2) && (ce xs i 3 == ce ys i 3)))
def sameFrom (xs ys : List (List C)) (i : Nat) : Bool := if i < xs.length then (if rowEq xs ys i then sameFrom xs ys (i + 1) else false) else true
termination_by xs.length - i
theorem sameFrom_lt {xs ys : List (List C)} {i : Nat} (h : i < xs.length) : sameFrom xs ys i = if rowEq xs ys i then sameFrom xs ys (i + 1) else false := by rw [sameFrom, if_pos h]
theorem sameFrom_ge {xs ys : List (List C)} {i : Nat} (h : ¬ i < xs.length) : sameFrom xs ys i = true := by rw [sameFrom, if_neg h]
def sameL (xs ys : List (List C)) : Bool := if xs.length = ys.length then sameFrom xs ys 0 else false
def tb2 (f : FuncId) (ds : List A) : List C :=
  match ds with
  | [.c (.sl _ xs)] => match f with
    | 51 => [.int .i64 (allE xs)]
    | 55 => [.int .i64 (allE xs)]
    | _ => []
  | [.c (.sl _ xs), .agg [.c (.int _ l), .c (.int _ r), .c (.int _ a), .c (.int _ b)]] => match f with
    | _ => []
  | [.c (.sl _ xs), .c (.sl _ ys)] => match f with
    | _ => []
  | _ => tbl f ds
abbrev kL : Bool × List LK := (false, [.sl i4])
abbrev PC2 (f : FuncId) (rty : List (Bool × List LK)) (ds : List A) : Prop := PureC Try.prog f rty ds fun i => (tb2 f ds).getD i .nil
structure WP2 (f : RFn) (rty : List (Bool × List LK)) (l : List C) (ds : List A) : Prop where
  h : f.body.wp Try.prog (stdE Try.prog tb2) 0 (finP (stdE Try.prog tb2) (getL l) rty f.results) ⟨ds ++ List.replicate (f.ntmps - ds.length) .u, []⟩
theorem pc2_of {D : Opts} {f : FuncId} {rf : RFn} {rty : List (Bool × List LK)} {ds : List A} (h : fnR Try.prog D f = some rf) (hn : ((Try.prog.funcs[f]?).map (·.name == "runtime.NumGoroutine")).getD true = false)
    {l : List C} (hl : tb2 f ds = l) (hw : WP2 rf rty l ds) : PC2 f rty ds := by
  have e : (fun i => (tb2 f ds).getD i .nil) = getL l := by rw [hl]; rfl
  show PureC _ _ _ _ (fun i => (tb2 f ds).getD i .nil)
  rw [e]
  exact PureC_fn tb2 mo h hn hw.h
theorem u30 (l r a b : Int) : tb2 37 [rc l r a b] = [.int .i64 (chk l r a b)] := rfl
theorem u31 (l r a b : Int) : tb2 38 [rc l r a b] = [.int .i64 (chk l r a b)] := rfl
theorem u28 (l r a b l' r' a' b' : Int) : tb2 29 [rc l r a b, rc l' r' a' b'] = [zs (comE l r a b l' r' a' b') (mx l l'), zs (comE l r a b l' r' a' b') (mn r r'), zs (comE l r a b l' r' a' b') (mx a a'), zs (comE l r a b l' r' a' b') (mn b b'), .bool (comI l r a b l' r' a' b')] := rfl
theorem u29 (l r a b l' r' a' b' : Int) : tb2 46 [rc l r a b, rc l' r' a' b'] = [zs (comE l r a b l' r' a' b') (mx l l'), zs (comE l r a b l' r' a' b') (mn r r'), zs (comE l r a b l' r' a' b') (mx a a'), zs (comE l r a b l' r' a' b') (mn b b'), .bool (comI l r a b l' r' a' b')] := rfl
theorem d30 (l r a b : Int) : PC2 37 [kI] [rc l r a b] := c30 l r a b
theorem d31 (l r a b : Int) : PC2 38 [kI] [rc l r a b] := c31 l r a b
theorem d28 (l r a b l' r' a' b' : Int) : PC2 29 [kR, kB] [rc l r a b, rc l' r' a' b'] := c28 l r a b l' r' a' b'
theorem d29 (l r a b l' r' a' b' : Int) : PC2 46 [kR, kB] [rc l r a b, rc l' r' a' b'] := c29 l r a b l' r' a' b'
theorem u36 (xs : List (List C)) : tb2 51 [lC xs] = [.int .i64 (allE xs)] := rfl
theorem u38 (xs : List (List C)) : tb2 55 [lC xs] = [.int .i64 (allE xs)] := rfl
theorem x36 {xs : List (List C)} {v : Int} (hl : xs.length ≤ 9223372036854775807) (hv : allE xs = v) : WP2 rf51 [kI] [.int .i64 v] [lC xs] := by
  refine ⟨?_⟩
  generalize hE : stdE Try.prog tb2 = E
  generalize hP : Try.prog = P
  cbv
  refine Br_iff.2 ⟨fun h1 => ?_, fun h1 => ?_⟩
  · subst hP; subst hE
    simp only [stdE, baseE, decide_eq_true_eq] at h1
    simp only [and_true]
    rw [← hv, allE, if_pos (by omega)]
  refine LoopW.inv (fun R R' s h k => RCode.wp_mono _ R R' s h k) (fun i : Nat => ⟨[.u, .u, iC 0, .u, .u, .u, .u, .u, .u, lC xs, iC (E.len xs), iC i, .u, .u, .u, .u, .u, .u, .u, .u, .u], []⟩)
    (fun i => i ≤ xs.length ∧ firstE xs i = v) (fun i => xs.length - i) 0 ?_ ?_ ?_
  · subst hP; subst hE
    simp only [stdE, baseE, decide_eq_false_iff_not] at h1
    exact ⟨Nat.zero_le _, by rw [← hv, allE, if_neg (by omega)]⟩
  · refine GSt.ren [] rfl rfl rfl (fun i hi => absurd hi (Nat.not_lt_zero i)) (Nat.zero_le _) ?_ trivial
    repeat' (first | exact trivial | exact Or.inl rfl | exact Or.inr rfl | refine And.intro ?_ ?_)
  rintro i ⟨hi, hf⟩
  cbv
  subst hP; subst hE
  simp only [Br_iff, stdE, baseE, decide_eq_true_eq, decide_eq_false_iff_not, and_true]
  refine ⟨fun h2 => ⟨Int.natCast_nonneg i, h2, d30 _ _ _ _, ?_⟩, fun h2 => ?_⟩
  · simp only [u30, ofNat_toNat, List.getD_cons_zero, gi_int]
    have hlt : i < xs.length := by simpa using h2
    have hu := firstE_lt hlt
    refine ⟨fun h3 => ?_, fun h3 => ⟨i + 1, ⟨hlt, ?_⟩, ?_, by omega⟩⟩
    · have h3' : ¬ chkAt xs i = 0 := by intro e; rw [chkAt, ce, ce, ce, ce] at e; rw [e] at h3; cases h3
      rw [if_neg h3'] at hu
      rw [← hf, hu]; rfl
    · have h3' : chkAt xs i = 0 := by simpa [chkAt, ce] using h3
      rw [if_pos h3'] at hu
      rw [← hf, hu]
    · refine GSt.ren [] rfl rfl rfl (fun i hi => absurd hi (Nat.not_lt_zero i)) (Nat.zero_le _) ?_ trivial
      repeat' (first | exact trivial | exact Or.inl rfl | exact Or.inr rfl | refine And.intro ?_ ?_)
      all_goals (
        right
        simp only [A.ren, A.c.injEq, C.int.injEq, true_and]
        rw [wrap_in (by simp; omega) (by simp; omega)]
        simp)
  · have hge : ¬ i < xs.length := by simpa using h2
    rw [firstE_ge hge] at hf
    rw [hf]
theorem d36 {xs : List (List C)} (hl : xs.length ≤ 9223372036854775807) : PC2 51 [kI] [lC xs] := pc2_of h51 (by kernel_rfl) (u36 xs) (x36 hl rfl)
theorem x38 {xs : List (List C)} {v : Int} (hl : xs.length ≤ 9223372036854775807) (hv : allE xs = v) : WP2 rf55 [kI] [.int .i64 v] [lC xs] := by
  refine ⟨?_⟩
  generalize hE : stdE Try.prog tb2 = E
  generalize hP : Try.prog = P
  cbv
  refine Br_iff.2 ⟨fun h1 => ?_, fun h1 => ?_⟩
  · subst hP; subst hE
    simp only [stdE, baseE, decide_eq_true_eq] at h1
    simp only [and_true]
    rw [← hv, allE, if_pos (by omega)]
  refine LoopW.inv (fun R R' s h k => RCode.wp_mono _ R R' s h k) (fun i : Nat => ⟨[lC xs, .u, iC 0, iC i, .u, .u, .u, .u, .u, .u, .u, .u, .u, .u, .u, .u, .u, .u, .u, .u, .u, .u], []⟩)
    (fun i => i ≤ xs.length ∧ firstE xs i = v) (fun i => xs.length - i) 0 ?_ ?_ ?_
  · subst hP; subst hE
    simp only [stdE, baseE, decide_eq_false_iff_not] at h1
    exact ⟨Nat.zero_le _, by rw [← hv, allE, if_neg (by omega)]⟩
  · refine GSt.ren [] rfl rfl rfl (fun i hi => absurd hi (Nat.not_lt_zero i)) (Nat.zero_le _) ?_ trivial
    repeat' (first | exact trivial | exact Or.inl rfl | exact Or.inr rfl | refine And.intro ?_ ?_)
  rintro i ⟨hi, hf⟩
  cbv
  subst hP; subst hE
  simp only [Br_iff, stdE, baseE, decide_eq_true_eq, decide_eq_false_iff_not, and_true]
  refine ⟨fun h2 => ⟨Int.natCast_nonneg i, h2, d31 _ _ _ _, ?_⟩, fun h2 => ?_⟩
  · simp only [u31, ofNat_toNat, List.getD_cons_zero, gi_int]
    have hlt : i < xs.length := by simpa using h2
    have hu := firstE_lt hlt
    refine ⟨fun h3 => ?_, fun h3 => ⟨i + 1, ⟨hlt, ?_⟩, ?_, by omega⟩⟩
    · have h3' : ¬ chkAt xs i = 0 := by intro e; rw [chkAt, ce, ce, ce, ce] at e; rw [e] at h3; cases h3
      rw [if_neg h3'] at hu
      rw [← hf, hu]; rfl
    · have h3' : chkAt xs i = 0 := by simpa [chkAt, ce] using h3
      rw [if_pos h3'] at hu
      rw [← hf, hu]
    · refine GSt.ren [] rfl rfl rfl (fun i hi => absurd hi (Nat.not_lt_zero i)) (Nat.zero_le _) ?_ trivial
      repeat' (first | exact trivial | exact Or.inl rfl | exact Or.inr rfl | refine And.intro ?_ ?_)
      all_goals (
        right
        simp only [A.ren, A.c.injEq, C.int.injEq, true_and]
        rw [wrap_in (by simp; omega) (by simp; omega)]
        simp)
  · have hge : ¬ i < xs.length := by simpa using h2
    rw [firstE_ge hge] at hf
    rw [hf]
theorem d38 {xs : List (List C)} (hl : xs.length ≤ 9223372036854775807) : PC2 55 [kI] [lC xs] := pc2_of h55 (by kernel_rfl) (u38 xs) (x38 hl rfl)
theorem sameFrom_self (xs : List (List C)) : ∀ k i, xs.length - i = k → sameFrom xs xs i = true := by
  intro k
  induction k with
  | zero => intro i h; exact sameFrom_ge (by omega)
  | succ k ih =>
    intro i h
    rw [sameFrom_lt (by omega), show rowEq xs xs i = true by simp [rowEq], if_pos rfl]
    exact ih (i + 1) (by omega)
theorem sameL_self (xs : List (List C)) : sameL xs xs = true := by rw [sameL, if_pos rfl]; exact sameFrom_self xs _ 0 rfl
theorem clipL_len (xs : List (List C)) (l r a b : Int) : (clipL xs l r a b).length ≤ xs.length := by
  unfold clipL
  split
  · exact clipTo_len xs l r a b _
  · simp
--MORE
end Go.Proofs.Ytkdapoipnkpbeaa
