/- Spans: checking, sorting, joining, adding up; the spans of rectangles. No conditions. -/
import Derived.Test.YtkdapoipnkpbeaaClips
import Derived.Test.YtkdapoipnkpbeaaE4
import Derived.Test.YtkdapoipnkpbeaaSpan
import Derived.Ground.NamesProg
import Derived.Ground.SlsfProg
import Derived.Test.YtkdapoipnkpbeaaLays
set_option linter.unusedVariables false
set_option linter.unusedSimpArgs false
namespace Go.Proofs.Ytkdapoipnkpbeaa
open Go Go.Eng Go.Span
section lay
open Go.Shelf Go.RowKit Go.Sort
set_option maxHeartbeats 1000000 in
theorem closure82 (x y : Int × Int) (W : World) : Calls Try.prog 75 #[.agg #[.int .i64 x.1, .int .i64 x.2], .agg #[.int .i64 y.1, .int .i64 y.2]] W fun e w' => e = .returned (.int .i64 (IntKind.i64.wrap (x.1 - y.1))) ∧ ∃ q os', w' = grow (W.drewN q) os' := by
  go_enter Try.func75, Try.ntmps75
  go_wp2
  go_ret
  exact ⟨by show Ending.returned (.int .i64 (wrap64 _)) = _; rw [IntWalk.i64_left], 0, _, by rw [alloc_eq_grow, alloc_eq_grow, grow_grow]; rfl⟩
theorem q49 (T : TypeId) (zs : List Int) (hz : zs.length < 4611686018427387904) : ACalls Try.prog 62 [.gr 0] [.arr T [.int .i64] (rowsI zs)] fun r H' =>
      r = .tup [] ∧ H' = [.arr T [.int .i64] (rowsI (zs.mergeSort fun x y => decide (x ≤ y)))] :=
  ACalls.gr (by rw [show (rowsI zs).length = zs.length by simp [rowsI]]; exact ACalls.sortInts Try.sort62 T zs hz)
theorem q81 (T : TypeId) (zs : List (Int × Int)) (hz : zs.length < 4611686018427387904) (hb : ∀ z ∈ zs, -4611686018427387904 ≤ z.1 ∧ z.1 < 4611686018427387904) :
    ACalls Try.prog 74 [.gr 0, .fn 75 []] [.arr T i2 (rowsP zs)] fun r H' => r = .tup [] ∧ ∃ ys, ys.Perm zs ∧ ys.Pairwise (fun a b => a.1 ≤ b.1) ∧ H' = [.arr T i2 (rowsP ys)] :=
  ACalls.gr (by
    rw [show (rowsP zs).length = zs.length by simp [rowsP]]
    exact ACalls.sort2 Try.sort74 Try.isAgg34 Try.sizeOf34 75 (enters_of Try.func75 (by kernel_rfl) rfl) closure82 T zs hz hb)
end lay
set_option maxRecDepth 1000000
set_option maxHeartbeats 1000000
abbrev sC (xs : List (List C)) : A := .c (.sl i2 xs)
abbrev kS : Bool × List LK := (false, [.sl i2])
theorem rowsP_len (zs : List (Int × Int)) : (rowsP zs).length = zs.length := by simp [rowsP]
theorem rowsP_get {zs : List (Int × Int)} {i : Nat} (h : i < zs.length) : ce (rowsP zs) i 0 = (zs[i]).1 ∧ ce (rowsP zs) i 1 = (zs[i]).2 := by simp [ce, cellAt, rowsP, List.getD, h, C.gi]
theorem rowsP_append (a b : List (Int × Int)) : rowsP (a ++ b) = rowsP a ++ rowsP b := by simp [rowsP]
/-- Rows as pairs. -/
def prs (xs : List (List C)) : List (Int × Int) := xs.map fun r => ((r.getD 0 .nil).gi, (r.getD 1 .nil).gi)
theorem prs_rowsP (zs : List (Int × Int)) : prs (rowsP zs) = zs := by
  simp only [prs, rowsP, List.map_map]
  exact (List.map_congr_left fun z _ => rfl).trans (List.map_id zs)
/-- A span that is none. -/
def badS (xs : List (List C)) (i : Nat) : Bool := if (if ce xs i 0 < 0 then true else decide (ce xs i 1 < ce xs i 0)) = true then true else decide (17179869184 < ce xs i 1)
def firstS (xs : List (List C)) (i : Nat) : Int := if i < xs.length then (if badS xs i then 1 else firstS xs (i + 1)) else 0
termination_by xs.length - i
theorem firstS_lt {xs : List (List C)} {i : Nat} (h : i < xs.length) : firstS xs i = if badS xs i then 1 else firstS xs (i + 1) := by rw [firstS, if_pos h]
theorem firstS_ge {xs : List (List C)} {i : Nat} (h : ¬ i < xs.length) : firstS xs i = 0 := by rw [firstS, if_neg h]
def spE (xs : List (List C)) : Int := if 256 < xs.length then 8 else firstS xs 0
/-- Along: the spans of the first i rows that have points. -/
def ptAt (xs : List (List C)) (i : Nat) : Bool := !emp (ce xs i 0) (ce xs i 1) (ce xs i 2) (ce xs i 3)
def alongTo (xs : List (List C)) : Nat → List (Int × Int)
  | 0 => []
  | i + 1 => alongTo xs i ++ (if ptAt xs i then [(ce xs i 2, ce xs i 3)] else [])
theorem alongTo_len (xs : List (List C)) : ∀ i, (alongTo xs i).length ≤ i
  | 0 => Nat.le_refl _
  | i + 1 => by
    have := alongTo_len xs i
    simp only [alongTo, List.length_append]
    split <;> simp <;> omega
def alongL (xs : List (List C)) : List (Int × Int) := alongTo xs xs.length
def tb3 (f : FuncId) (ds : List A) : List C :=
  match ds with
  | [.c (.sl _ xs)] => match f with
    | 59 => [.int .i64 (spE xs)]
    | 68 => [.sl i2 (rowsP (alongL xs))]
    | 60 => [.sl i2 (rowsP (nf (prs xs)))]
    | 67 => [.int .i64 (if spE xs = 0 then tot (nf (prs xs)) else 0), .int .i64 (spE xs)]
    | _ => tb2 f ds
  | _ => tb2 f ds
abbrev PC3 (f : FuncId) (rty : List (Bool × List LK)) (ds : List A) : Prop := PureC Try.prog f rty ds fun i => (tb3 f ds).getD i .nil
structure WP3 (f : RFn) (rty : List (Bool × List LK)) (l : List C) (ds : List A) : Prop where
  h : f.body.wp Try.prog (stdE Try.prog tb3) 0 (finP (stdE Try.prog tb3) (getL l) rty f.results) ⟨ds ++ List.replicate (f.ntmps - ds.length) .u, []⟩
theorem pc3_of {D : Opts} {f : FuncId} {rf : RFn} {rty : List (Bool × List LK)} {ds : List A} (h : fnR Try.prog D f = some rf) (hn : ((Try.prog.funcs[f]?).map (·.name == "runtime.NumGoroutine")).getD true = false)
    {l : List C} (hl : tb3 f ds = l) (hw : WP3 rf rty l ds) : PC3 f rty ds := by
  have e : (fun i => (tb3 f ds).getD i .nil) = getL l := by rw [hl]; rfl
  show PureC _ _ _ _ (fun i => (tb3 f ds).getD i .nil)
  rw [e]
  exact PureC_fn tb3 mo h hn hw.h
theorem s64 (xs : List (List C)) : tb3 59 [sC xs] = [.int .i64 (spE xs)] := rfl

theorem x64 {xs : List (List C)} {v : Int} (hl : xs.length ≤ 9223372036854775807) (hv : spE xs = v) : WP3 rf59 [kI] [.int .i64 v] [sC xs] := by
  refine ⟨?_⟩
  generalize hE : stdE Try.prog tb3 = E
  generalize hP : Try.prog = P
  cbv
  refine Br_iff.2 ⟨fun h1 => ?_, fun h1 => ?_⟩
  · subst hP; subst hE
    simp only [stdE, baseE, decide_eq_true_eq] at h1
    simp only [and_true]
    rw [← hv, spE, if_pos (by omega)]
  refine LoopW.inv (fun R R' s h k => RCode.wp_mono _ R R' s h k) (fun i : Nat => ⟨[.u, .u, iC 0, .u, .u, .u, .u, .u, sC xs, iC (E.len xs), iC i, .u, .u, .u, .u, .u, .u, .u, .u, .u, .u, .u, .u, .u, .u, .u, .u, .u, .u, .u], []⟩)
    (fun i => i ≤ xs.length ∧ firstS xs i = v) (fun i => xs.length - i) 0 ?_ ?_ ?_
  · subst hP; subst hE
    simp only [stdE, baseE, decide_eq_false_iff_not] at h1
    exact ⟨Nat.zero_le _, by rw [← hv, spE, if_neg (by omega)]⟩
  · refine GSt.ren [] rfl rfl rfl (fun i hi => absurd hi (Nat.not_lt_zero i)) (Nat.zero_le _) ?_ trivial
    repeat' (first | exact trivial | exact Or.inl rfl | exact Or.inr rfl | refine And.intro ?_ ?_)
  rintro i ⟨hi, hf⟩
  cbv
  subst hP; subst hE
  simp only [Br_iff, stdE, baseE, decide_eq_true_eq, decide_eq_false_iff_not, and_true, Imp_self, true_and]
  refine ⟨fun h2 => ⟨Int.natCast_nonneg i, h2, fun h3 => ?_, fun h3 => ⟨i + 1, ⟨?_, ?_⟩, ?_, ?_⟩⟩, fun h2 => ?_⟩
  · have hu := firstS_lt (show i < xs.length by simpa using h2)
    rw [show badS xs i = true from h3, if_pos rfl] at hu
    rw [← hf, hu]
  · exact (by simpa using h2 : i < xs.length)
  · have hu := firstS_lt (show i < xs.length by simpa using h2)
    rw [show badS xs i = false from h3, if_neg (by simp)] at hu
    rw [← hf, hu]
  · have hlt : i < xs.length := by simpa using h2
    refine GSt.ren [] rfl rfl rfl (fun i hi => absurd hi (Nat.not_lt_zero i)) (Nat.zero_le _) ?_ trivial
    repeat' (first | exact trivial | exact Or.inl rfl | exact Or.inr rfl | refine And.intro ?_ ?_)
    all_goals (
      right
      simp only [A.ren, A.c.injEq, C.int.injEq, true_and]
      rw [wrap_in (by simp; omega) (by simp; omega)]
      simp)
  · have hlt : i < xs.length := by simpa using h2
    omega
  · have hge : ¬ i < xs.length := by simpa using h2
    rw [firstS_ge hge] at hf
    rw [hf]
theorem e64 {xs : List (List C)} (hl : xs.length ≤ 9223372036854775807) : PC3 59 [kI] [sC xs] := pc3_of h59 (by kernel_rfl) (s64 xs) (x64 hl rfl)

theorem s42 (xs : List (List C)) : tb3 68 [lC xs] = [.sl i2 (rowsP (alongL xs))] := rfl
theorem s46 (l r a b : Int) : tb3 45 [rc l r a b] = [zs (emp l r a b) l, zs (emp l r a b) r, zs (emp l r a b) a, zs (emp l r a b) b] := rfl
theorem e46 (l r a b : Int) : PC3 45 [kR] [rc l r a b] := c46 l r a b
--S2
def nzI (l r a b : Int) : Bool := !((if emp l r a b = true then 0 else l) == 0 && ((if emp l r a b = true then 0 else r) == 0 && ((if emp l r a b = true then 0 else a) == 0 && ((if emp l r a b = true then 0 else b) == 0 && true))))
theorem nzI_emp (l r a b : Int) : nzI l r a b = !emp l r a b := by
  unfold nzI
  cases h : emp l r a b with
  | true => simp
  | false =>
    simp [emp] at h ⊢
    omega
theorem x42 {xs ys : List (List C)} (hl : xs.length ≤ 1000000) (hv : rowsP (alongL xs) = ys) : WP3 rf68 [kS] [.sl i2 ys] [lC xs] := by
  refine ⟨?_⟩
  generalize hE : stdE Try.prog tb3 = E
  generalize hP : Try.prog = P
  cbv
  refine LoopW.inv (fun R R' s h k => RCode.wp_mono _ R R' s h k) (fun i : Nat => ⟨[.u, .u, .u, .gr 0, .u, .u, lC xs, iC (E.len xs), iC i, .u, .u, .u, .u, .u, .u, .u, .u, .u, .u, .u, .u, .u, .u, .u, .u, .u], [.arr 34 i2 (rowsP (alongTo xs i))]⟩)
    (fun i => i ≤ xs.length) (fun i => xs.length - i) 0 ?_ ?_ ?_
  · exact Nat.zero_le _
  · refine GSt.trans (GSt.nil 3 34 i2 rfl) (GSt.ren [0] rfl rfl rfl (fun i hi => absurd hi (Nat.not_lt_zero i)) (Nat.zero_le _) ?_ ?_)
    · repeat' (first | exact trivial | exact Or.inl rfl | exact Or.inr rfl | refine And.intro ?_ ?_)
    · repeat' (first | exact trivial | exact Or.inr rfl | refine And.intro ?_ ?_)
  intro i hi
  obtain ⟨w, hw⟩ : ∃ w, rowsP (alongTo xs i) = w := ⟨_, rfl⟩
  dsimp only
  rw [hw]
  cbv
  subst hP; subst hE
  simp only [Br_iff, stdE, baseE, decide_eq_true_eq, decide_eq_false_iff_not, and_true, ofNat_toNat]
  have hstep : alongTo xs (i + 1) = alongTo xs i ++ (if ptAt xs i then [(ce xs i 2, ce xs i 3)] else []) := rfl
  have hwl := alongTo_len xs i
  rw [← rowsP_len, hw] at hwl
  refine ⟨fun h3 => ⟨Int.natCast_nonneg i, h3, e46 _ _ _ _, ?_⟩, fun h3 => ?_⟩
  · have hlt : i < xs.length := by simpa using h3
    simp only [s46, List.getD_cons_zero, List.getD_cons_succ, zs, gi_int]
    refine ⟨fun h4 => ⟨?_, i + 1, hlt, GSt.ren [3] rfl rfl rfl (fun i hi => absurd hi (Nat.not_lt_zero i)) (Nat.zero_le _) ?_ ?_, by omega⟩, fun h4 => ⟨i + 1, hlt, GSt.ren [0] rfl rfl rfl (fun i hi => absurd hi (Nat.not_lt_zero i)) (Nat.zero_le _) ?_ ?_, by omega⟩⟩
    · simp; omega
    · repeat' (first | exact trivial | exact Or.inl rfl | exact Or.inr rfl | refine And.intro ?_ ?_)
      all_goals (
        right
        simp only [A.ren, A.c.injEq, C.int.injEq, true_and]
        rw [wrap_in (by simp; omega) (by simp; omega)]
        simp)
    · refine ⟨Or.inr ?_, trivial⟩
      have h5 : ptAt xs i = true := (nzI_emp (ce xs i 0) (ce xs i 1) (ce xs i 2) (ce xs i 3)).symm.trans h4
      rw [hstep, h5, if_pos rfl, rowsP_append, hw]
      rfl
    · repeat' (first | exact trivial | exact Or.inl rfl | exact Or.inr rfl | refine And.intro ?_ ?_)
      all_goals (
        right
        simp only [A.ren, A.c.injEq, C.int.injEq, true_and]
        rw [wrap_in (by simp; omega) (by simp; omega)]
        simp)
    · refine ⟨Or.inr ?_, trivial⟩
      have h5 : ptAt xs i = false := (nzI_emp (ce xs i 0) (ce xs i 1) (ce xs i 2) (ce xs i 3)).symm.trans h4
      have hs1 : rowsP (alongTo xs (i + 1)) = w := by rw [hstep, h5]; simpa using hw
      rw [hs1]
      rfl
  · have hge : i = xs.length := by
      have : ¬ i < xs.length := by simpa using h3
      omega
    subst hge
    rw [← hv, alongL, hw]
theorem e42 {xs : List (List C)} (hl : xs.length ≤ 1000000) : PC3 68 [kS] [lC xs] := pc3_of h68 (by kernel_rfl) (s42 xs) (x42 hl rfl)
theorem upd_last {out : List (Int × Int)} {t : Int × Int} (ht : out.getLast? = some t) (b : Int) :
    updC (rowsP out) (out.length - 1) 1 (.int .i64 (if b > (cellAt (rowsP out) (out.length - 1) 1).gi then b else (cellAt (rowsP out) (out.length - 1) 1).gi)) = rowsP (out.dropLast ++ [(t.1, Go.Span.mx t.2 b)]) := by
  obtain ⟨l, rfl⟩ := List.getLast?_eq_some_iff.1 ht
  have e2 : cellAt (rowsP (l ++ [t])) ((l ++ [t]).length - 1) 1 = .int .i64 t.2 := by simp [cellAt, rowsP, List.getD]
  rw [e2]
  simp [updC, rowsP, setC, Go.Span.mx, gi_int, List.getD]
theorem x65 {zs : List (Int × Int)} {ys0 : List (List C)} {xs : List (List C)} (hl : zs.length ≤ 1000000)
    (h80 : ACalls Try.prog 73 [sC xs] [] fun r H' => r = .gr 0 ∧ H' = [.arr 34 i2 xs])
    (h81 : ACalls Try.prog 74 [.gr 0, .fn 75 []] [.arr 34 i2 xs] fun r H' => r = .tup [] ∧ ∃ ys, ys.Perm zs ∧ ys.Pairwise (fun a b => a.1 ≤ b.1) ∧ H' = [.arr 34 i2 (rowsP ys)])
    (hnf : ∀ ys, ys.Perm zs → ys.Pairwise (fun a b => a.1 ≤ b.1) → rowsP (mergeTo ys ys.length) = ys0) : WP3 rf60 [kS] [.sl i2 ys0] [sC xs] := by
  have b80 : hasBody Try.prog 73 = true := b73
  have b81 : hasBody Try.prog 74 = true := b74
  refine ⟨?_⟩
  generalize hE : stdE Try.prog tb3 = E
  generalize hP : Try.prog = P at h80 h81 b80 b81 ⊢
  cbv
  refine HCall.mk b80 (h80.mono fun r H' hq => ?_)
  obtain ⟨rfl, rfl⟩ := hq
  cbv
  refine HCall.mk b81 (h81.mono fun r H' hq => ?_)
  obtain ⟨rfl, ys, hp, hs, rfl⟩ := hq
  obtain ⟨u, hu⟩ : ∃ u, rowsP ys = u := ⟨_, rfl⟩
  rw [hu]
  cbv
  have hlen : ys.length ≤ 1000000 := by rw [hp.length_eq]; exact hl
  have hul : u.length = ys.length := by rw [← hu, rowsP_len]
  refine LoopW.inv (fun R R' s h k => RCode.wp_mono _ R R' s h k) (fun i : Nat => ⟨[.u, .u, .u, .gr 2, .ptr 1 0, .u, .u, .u, .u, .u, .u, .u, .gr 0, iC (E.len u), iC i, .u, .u, .u, .u, .u, .u, .u, .u, .u, .u, .u, .u, .u, .u, .u, .u, .u, .u, .u, .u, .u, .u, .u, .u, .u, .u, .u, .u, .u, .u, .u, .u, .u, .u, .u, .u, .u, .u, .u, .u, .u, .u, .u, .u, .u, .u, .u, .u, .u, .u, .u], [.arr 34 i2 u, .box 34 [iC (lastP ys i).1, iC (lastP ys i).2], .arr 34 i2 (rowsP (mergeTo ys i))]⟩)
    (fun i => i ≤ ys.length) (fun i => ys.length - i) 0 ?_ ?_ ?_
  · exact Nat.zero_le _
  · refine GSt.trans (GSt.nil 3 34 i2 rfl) (GSt.ren [0, 1, 2] rfl rfl rfl (fun i hi => absurd hi (Nat.not_lt_zero i)) (Nat.zero_le _) ?_ ?_)
    · repeat' (first | exact trivial | exact Or.inl rfl | exact Or.inr rfl | refine And.intro ?_ ?_)
    · repeat' (first | exact trivial | exact Or.inr rfl | refine And.intro ?_ ?_)
  intro i hi
  obtain ⟨w, hw⟩ : ∃ w, rowsP (mergeTo ys i) = w := ⟨_, rfl⟩
  obtain ⟨lst, hlst⟩ : ∃ l : Int × Int, lastP ys i = l := ⟨_, rfl⟩
  obtain ⟨la, lb⟩ := lst
  dsimp only
  rw [hw, hlst]
  cbv
  subst hP; subst hE
  simp only [Br_iff, stdE, baseE, decide_eq_true_eq, decide_eq_false_iff_not, and_true, Imp_iff, imp_self, true_and, ofNat_toNat]
  refine ⟨fun h3 => ?_, fun h3 => ?_⟩
  · have hlt : i < ys.length := by rw [← hul]; simpa using h3
    obtain ⟨a, b, hab⟩ : ∃ a b, ys.getD i (0, 0) = (a, b) := ⟨_, _, rfl⟩
    have hg : ys[i] = (a, b) := by rw [← hab]; simp [List.getD, hlt]
    have e0 : (cellAt u i 0).gi = a := by rw [← hu]; exact (rowsP_get hlt).1.trans (by rw [hg])
    have e1 : (cellAt u i 1).gi = b := by rw [← hu]; exact (rowsP_get hlt).2.trans (by rw [hg])
    have hl1 : lastP ys (i + 1) = (a, b) := hab
    have hm1 : mergeTo ys (i + 1) = mstep (mergeTo ys i) (la, lb) (a, b) := by rw [← hlst, ← hab]; rfl
    have hwl := mergeTo_len ys i
    rw [← rowsP_len, hw] at hwl
    simp only [e0, e1]
    generalize mergeTo ys i = out at hm1 hw
    have hwo : w.length = out.length := by rw [← hw, rowsP_len]
    have hwr : 0 < w.length → IntKind.i64.wrap ((w.length : Int) - 1) = ((w.length - 1 : Nat) : Int) := fun h => by rw [wrap_in (by omega) (by omega)]; omega
    have hlast : ∀ t, out.getLast? = some t → 0 < w.length ∧ (cellAt w (IntKind.i64.wrap ((w.length : Int) - 1)).toNat 1).gi = t.2 := fun t ht => by
      have h0 : 0 < out.length := by cases out with
        | nil => cases ht
        | cons x l => simp
      refine ⟨by omega, ?_⟩
      rw [hwr (by omega), Int.toNat_natCast, ← hw, rowsP_len]
      rw [List.getLast?_eq_getElem?, List.getElem?_eq_getElem (by omega)] at ht
      have := (rowsP_get (zs := out) (i := out.length - 1) (by omega)).2
      rw [Option.some.inj ht] at this
      exact this
    have hpos : (if (0 : Int) < w.length then decide (a ≤ (cellAt w (IntKind.i64.wrap ((w.length : Int) - 1)).toNat 1).gi) else false) = true → 0 < w.length := fun h => by
      by_cases h0 : (0 : Int) < w.length
      · omega
      · rw [if_neg h0] at h; cases h
    refine ⟨Int.natCast_nonneg i, h3, fun c1 => ⟨i + 1, hlt, GSt.ren [0, 1, 2] rfl rfl rfl (fun i hi => absurd hi (Nat.not_lt_zero i)) (Nat.zero_le _) ?_ ?_, by omega⟩, fun c1 => ⟨?_, ?_, fun c2 => ⟨?_, ?_, ?_, ?_, i + 1, hlt, GSt.ren [0, 1, 2] rfl rfl rfl (fun i hi => absurd hi (Nat.not_lt_zero i)) (Nat.zero_le _) ?_ ?_, by omega⟩, fun c2 => ⟨?_, i + 1, hlt, GSt.ren [0, 1, 5] rfl rfl rfl (fun i hi => absurd hi (Nat.not_lt_zero i)) (Nat.zero_le _) ?_ ?_, by omega⟩⟩⟩
    · repeat' (first | exact trivial | exact Or.inl rfl | exact Or.inr rfl | refine And.intro ?_ ?_)
      all_goals (
        right
        simp only [A.ren, A.c.injEq, C.int.injEq, true_and]
        rw [wrap_in (by simp; omega) (by simp; omega)]
        simp)
    · refine ⟨Or.inr rfl, Or.inr (by rw [hl1]; rfl), Or.inr ?_, trivial⟩
      have : mergeTo ys (i + 1) = out := by
        rw [hm1]
        unfold mstep
        rw [if_pos]
        simp at c1 ⊢
        omega
      rw [this, hw]
      rfl
    · intro h; rw [hwr (by omega)]; omega
    · intro h; rw [hwr (by omega)]; omega
    · have h0 : 0 < w.length := hpos c2
      rw [hwr h0]; omega
    · have h0 : 0 < w.length := hpos c2
      rw [hwr h0]; omega
    · have h0 : 0 < w.length := hpos c2
      rw [hwr h0]; omega
    · have h0 : 0 < w.length := hpos c2
      rw [hwr h0]; omega
    · repeat' (first | exact trivial | exact Or.inl rfl | exact Or.inr rfl | refine And.intro ?_ ?_)
      all_goals (
        right
        simp only [A.ren, A.c.injEq, C.int.injEq, true_and]
        rw [wrap_in (by simp; omega) (by simp; omega)]
        simp)
    · refine ⟨Or.inr rfl, Or.inr (by rw [hl1]; rfl), Or.inr ?_, trivial⟩
      have h0 : 0 < w.length := hpos c2
      obtain ⟨t, ht⟩ : ∃ t, out.getLast? = some t := ⟨_, List.getLast?_eq_some_getLast (fun e => by have h9 := congrArg List.length e; simp only [List.length_nil] at h9; omega)⟩
      have : mergeTo ys (i + 1) = out.dropLast ++ [(t.1, Go.Span.mx t.2 b)] := by
        rw [hm1]
        unfold mstep
        rw [if_neg (by simp at c1 ⊢; omega), ht]
        have := (hlast t ht).2
        rw [if_pos (by omega), this] at c2
        simp only [if_pos (show a ≤ t.2 by simpa using c2)]
      rw [this, hwr h0, Int.toNat_natCast, hwo, ← hw]
      exact congrArg some (congrArg (O.arr 34 i2) (upd_last ht b))
    · simp; omega
    · repeat' (first | exact trivial | exact Or.inl rfl | exact Or.inr rfl | refine And.intro ?_ ?_)
      all_goals (
        right
        simp only [A.ren, A.c.injEq, C.int.injEq, true_and]
        rw [wrap_in (by simp; omega) (by simp; omega)]
        simp)
    · refine ⟨Or.inr rfl, Or.inr (by rw [hl1]; rfl), Or.inr ?_, trivial⟩
      have : mergeTo ys (i + 1) = out ++ [(a, b)] := by
        rw [hm1]
        unfold mstep
        rw [if_neg (by simp at c1 ⊢; omega)]
        cases ht : out.getLast? with
        | none => rfl
        | some t =>
          have h0 := (hlast t ht).1
          rw [if_pos (by omega), (hlast t ht).2] at c2
          simp only [if_neg (show ¬ a ≤ t.2 by simpa using c2)]
      rw [this, rowsP_append, hw]
      rfl
  · have hge : i = ys.length := by
      have : ¬ i < ys.length := by rw [← hul]; simpa using h3
      omega
    subst hge
    rw [← hnf ys hp hs, ← hw]
structure WR3 (f : RFn) (Q : A → List O → Prop) (ds : List A) (H : List O) : Prop where
  h : f.body.wp Try.prog (stdE Try.prog tb3) H.length (finR (stdE Try.prog tb3) H.length f.results Q) ⟨ds ++ List.replicate (f.ntmps - ds.length) .u, H⟩
theorem qr3_of {D : Opts} {f : FuncId} {rf : RFn} {ds : List A} {H : List O} {Q : A → List O → Prop} (h : fnR Try.prog D f = some rf) (hw : WR3 rf Q ds H) : ACalls Try.prog f ds H Q :=
  ACalls_of (tbl := tb3) mo h (fun _ _ h => h) hw.h
theorem x80 {xs : List (List C)} (hl : xs.length ≤ 1000000) : WR3 rf73 (fun r H' => r = .gr 0 ∧ H' = [.arr 34 i2 xs]) [sC xs] [] := by
  refine ⟨?_⟩
  generalize hE : stdE Try.prog tb3 = E
  generalize hP : Try.prog = P
  cbv
  refine HIsn.mk fun b hb => ?_
  cbv
  refine Br_iff.2 ⟨fun h1 => ?_, fun h1 => ?_⟩
  · have hx : xs = [] := hb h1
    subst hx
    exact ⟨.gr 0, [.arr 34 i2 []], GFin.of (GSt.nil 0 34 i2 rfl), rfl, rfl⟩
  · subst hP; subst hE
    simp only [stdE, baseE, decide_eq_true_eq]
    refine ⟨?_, ⟨.gr 0, [.arr 34 i2 xs], GFin.of (GSt.ren [1] rfl rfl rfl (fun i hi => absurd hi (Nat.not_lt_zero i)) (Nat.zero_le _) ?_ ?_), rfl, rfl⟩⟩
    · simp; omega
    · exact ⟨Or.inr rfl, trivial⟩
    · exact ⟨Or.inr rfl, trivial⟩
theorem q80 {xs : List (List C)} (hl : xs.length ≤ 1000000) : ACalls Try.prog 73 [sC xs] [] (fun r H' => r = .gr 0 ∧ H' = [.arr 34 i2 xs]) := qr3_of h73 (x80 hl)

theorem s65 (zs : List (Int × Int)) : tb3 60 [sC (rowsP zs)] = [.sl i2 (rowsP (nf zs))] := by
  show [C.sl i2 (rowsP (nf (prs (rowsP zs))))] = _
  rw [prs_rowsP]
theorem e65 {zs : List (Int × Int)} (hl : zs.length ≤ 1000000) (hb : ∀ z ∈ zs, -4611686018427387904 ≤ z.1 ∧ z.1 < 4611686018427387904) : PC3 60 [kS] [sC (rowsP zs)] :=
  pc3_of h60 (by kernel_rfl) (s65 zs) (x65 (zs := zs) hl (q80 (by rw [rowsP_len]; exact hl)) (q81 34 zs (by omega) hb) fun ys hp hs => by rw [merge_nf hp hs])
theorem firstS_zero {xs : List (List C)} : ∀ k i, xs.length - i = k → firstS xs i = 0 → ∀ j, i ≤ j → j < xs.length → badS xs j = false := by
  intro k
  induction k with
  | zero => intro i h _ j h1 h2; omega
  | succ k ih =>
    intro i h h0 j h1 h2
    rw [firstS_lt (by omega)] at h0
    cases hb : badS xs i with
    | true => rw [hb] at h0; simp at h0
    | false =>
      rw [hb, if_neg (by simp)] at h0
      by_cases hij : j = i
      · subst hij; exact hb
      · exact ih (i + 1) (by omega) h0 j (by omega) h2
theorem spE_ok {zs : List (Int × Int)} (h : spE (rowsP zs) = 0) : zs.length ≤ 256 ∧ ∀ z ∈ zs, 0 ≤ z.1 ∧ z.1 ≤ z.2 ∧ z.2 ≤ 17179869184 := by
  unfold spE at h
  split at h
  · cases h
  · rename_i hl
    rw [rowsP_len] at hl
    refine ⟨by omega, fun z hz => ?_⟩
    obtain ⟨i, hi, rfl⟩ := List.mem_iff_getElem.1 hz
    have := firstS_zero _ 0 rfl h i (Nat.zero_le _) (by rw [rowsP_len]; exact hi)
    unfold badS at this
    rw [(rowsP_get hi).1, (rowsP_get hi).2] at this
    split at this
    · cases this
    · rename_i h1
      simp at this h1
      omega
theorem firstS_good {xs : List (List C)} (h : ∀ j, j < xs.length → badS xs j = false) : ∀ k i, xs.length - i = k → firstS xs i = 0 := by
  intro k
  induction k with
  | zero => intro i hk; exact firstS_ge (by omega)
  | succ k ih =>
    intro i hk
    rw [firstS_lt (by omega), h i (by omega), if_neg (by simp)]
    exact ih (i + 1) (by omega)
theorem spE_good {zs : List (Int × Int)} (hl : zs.length ≤ 256) (h : ∀ z ∈ zs, 0 ≤ z.1 ∧ z.1 ≤ z.2 ∧ z.2 ≤ 17179869184) : spE (rowsP zs) = 0 := by
  unfold spE
  rw [rowsP_len, if_neg (by omega)]
  refine firstS_good (fun j hj => ?_) _ 0 rfl
  rw [rowsP_len] at hj
  have := h zs[j] (List.getElem_mem hj)
  unfold badS
  rw [(rowsP_get hj).1, (rowsP_get hj).2, if_neg (by rw [if_neg (by omega)]; simp; omega)]
  simp; omega
theorem s54 (zs : List (Int × Int)) : tb3 67 [sC (rowsP zs)] = [.int .i64 (if spE (rowsP zs) = 0 then tot (nf zs) else 0), .int .i64 (spE (rowsP zs))] := by
  show [C.int .i64 (if spE (rowsP zs) = 0 then tot (nf (prs (rowsP zs))) else 0), .int .i64 (spE (rowsP zs))] = _
  rw [prs_rowsP]
theorem x54 {zs : List (Int × Int)} {xs ws : List (List C)} {n e : Int} (hx : rowsP zs = xs) (hw : rowsP (nf zs) = ws) (hl : zs.length ≤ 1000000) (he : spE (rowsP zs) = e) (hn : (if spE (rowsP zs) = 0 then tot (nf zs) else 0) = n) :
    WP3 rf67 [kI, kI] [.int .i64 n, .int .i64 e] [sC xs] := by
  refine ⟨?_⟩
  generalize hE : stdE Try.prog tb3 = E
  generalize hP : Try.prog = P
  cbv
  have h65 : spE (rowsP zs) = 0 → PC3 60 [kS] [sC xs] ∧ tb3 60 [sC xs] = [.sl i2 ws] := fun h => by
    obtain ⟨h1, h2⟩ := spE_ok h
    subst hx; subst hw
    exact ⟨e65 hl fun z hz => by have := h2 z hz; omega, s65 zs⟩
  have hs64 : tb3 59 [sC xs] = [.int .i64 e] := by rw [← he, hx]; rfl
  refine ⟨?_, Br_iff.2 ⟨fun h1 => ?_, fun h1 => ⟨?_, ?_⟩⟩⟩
  · subst hP; subst hE; subst hx; exact e64 (by rw [rowsP_len]; omega)
  · subst hP; subst hE
    simp only [stdE, baseE, hs64, List.getD_cons_zero, gi_int, and_true] at h1 ⊢
    have h1' : ¬ e = 0 := by simpa using h1
    rw [← hn, he, if_neg h1']
  · subst hP; subst hE
    simp only [stdE, baseE, hs64, List.getD_cons_zero, gi_int] at h1
    exact (h65 (he.trans (by simpa using h1))).1
  have he0 : e = 0 := by
    subst hP; subst hE
    simp only [stdE, baseE, hs64, List.getD_cons_zero, gi_int] at h1
    simpa using h1
  subst he0
  obtain ⟨_, h65'⟩ := h65 he
  obtain ⟨hl1, hl2⟩ := spE_ok he
  obtain ⟨hnf, _⟩ := nf_ok zs
  have hnb := nf_bound (lo := 0) (hi := 17179869184) fun z hz => (⟨(hl2 z hz).1, (hl2 z hz).2.2⟩ : 0 ≤ z.1 ∧ z.2 ≤ 17179869184)
  have hnl := nf_len zs
  rw [if_pos he] at hn
  generalize nf zs = ns at hw hnf hnb hnl hn
  have hwl : ws.length = ns.length := by rw [← hw, rowsP_len]
  refine LoopW.inv (fun R R' s h k => RCode.wp_mono _ R R' s h k) (fun i : Nat => ⟨[.u, .u, iC 0, iC 0, .u, iC (tot (ns.take i)), .u, .u, .u, .u, .u, .u, .u, .u, sC ws, iC (E.len ws), iC i, .u, .u, .u, .u, .u, .u, .u, .u, .u, .u, .u, .u], []⟩)
    (fun i => i ≤ ns.length) (fun i => ns.length - i) 0 ?_ ?_ ?_
  · exact Nat.zero_le _
  · refine GSt.ren [] rfl rfl rfl (fun i hi => absurd hi (Nat.not_lt_zero i)) (Nat.zero_le _) ?_ trivial
    repeat' (first | exact trivial | exact Or.inl rfl | exact Or.inr rfl | refine And.intro ?_ ?_)
    all_goals (
      right
      subst hP; subst hE
      simp [stdE, baseE, h65', A.ren, gl_sl])
  intro i hi
  obtain ⟨p, hp⟩ : ∃ p, tot (ns.take i) = p := ⟨_, rfl⟩
  dsimp only
  rw [hp]
  cbv
  subst hP; subst hE
  simp only [Br_iff, stdE, baseE, decide_eq_true_eq, decide_eq_false_iff_not, and_true, ofNat_toNat]
  refine ⟨fun h3 => ?_, fun h3 => ?_⟩
  · have hlt : i < ns.length := by rw [← hwl]; simpa using h3
    have e0 : (cellAt ws i 0).gi = (ns[i]).1 := by rw [← hw]; exact (rowsP_get hlt).1
    have e1 : (cellAt ws i 1).gi = (ns[i]).2 := by rw [← hw]; exact (rowsP_get hlt).2
    have hp1 : tot (ns.take (i + 1)) = p + ((ns[i]).2 - (ns[i]).1) := by
      rw [List.take_add_one, List.getElem?_eq_getElem hlt, tot_append, hp]
      simp [tot]
    have hb1 := tot_le (n := 17179869184) (hnf.take (i + 1)) fun z hz => hnb z (List.mem_of_mem_take hz)
    have hb2 := tot_nonneg (hnf.take i)
    have hb3 := hnf.1 _ (List.getElem_mem hlt)
    have hb4 := hnb _ (List.getElem_mem hlt)
    simp only [e0, e1]
    refine ⟨Int.natCast_nonneg i, h3, i + 1, hlt, GSt.ren [] rfl rfl rfl (fun i hi => absurd hi (Nat.not_lt_zero i)) (Nat.zero_le _) ?_ trivial, by omega⟩
    repeat' (first | exact trivial | exact Or.inl rfl | exact Or.inr rfl | refine And.intro ?_ ?_)
    · right
      simp only [A.ren, A.c.injEq, C.int.injEq, true_and]
      rw [hp1, wrap_in (n := (ns[i]).2 - (ns[i]).1) (by omega) (by omega), wrap_in (by omega) (by omega)]
    · right
      simp only [A.ren, A.c.injEq, C.int.injEq, true_and]
      rw [wrap_in (by simp; omega) (by simp; omega)]
      simp
  · have hge : i = ns.length := by
      have : ¬ i < ns.length := by rw [← hwl]; simpa using h3
      omega
    subst hge
    rw [List.take_length] at hp
    rw [← hn, hp]
theorem e54 {zs : List (Int × Int)} (hl : zs.length ≤ 1000000) : PC3 67 [kI, kI] [sC (rowsP zs)] := pc3_of h67 (by kernel_rfl) (s54 zs) (x54 rfl rfl hl rfl rfl)
end Go.Proofs.Ytkdapoipnkpbeaa
