/- Rectangles: how many points a list of them covers, as the code counts them: strip by strip. No conditions. -/
import Derived.Test.YtkdapoipnkpbeaaSpans
set_option linter.unusedVariables false
set_option linter.unusedSimpArgs false
namespace Go.Proofs.Ytkdapoipnkpbeaa
open Go Go.Eng Go.Span
set_option maxRecDepth 1000000
set_option maxHeartbeats 1000000
abbrev i1 : List LK := [.int .i64]
theorem rowsI_len (zs : List Int) : (rowsI zs).length = zs.length := by simp [rowsI]
theorem rowsI_get {zs : List Int} {i : Nat} (h : i < zs.length) : (cellAt (rowsI zs) i 0).gi = zs[i] := by simp [cellAt, rowsI, List.getD, h, C.gi]
theorem rowsI_upd (zs : List Int) (k : Nat) (x : Int) : updC (rowsI zs) k 0 (.int .i64 x) = rowsI (zs.set k x) := by
  unfold updC rowsI
  by_cases h : k < zs.length
  · simp [List.getD, h, setC, List.map_set]
  · rw [List.set_eq_of_length_le (by simp; omega), List.set_eq_of_length_le (by omega)]
theorem rowsI_getD (zs : List Int) (i : Nat) : (cellAt (rowsI zs) i 0).gi = zs.getD i 0 := by
  by_cases h : i < zs.length
  · simp [cellAt, rowsI, List.getD, h, C.gi]
  · simp [cellAt, rowsI, List.getD, Nat.le_of_not_lt h, C.gi]
theorem gfin_own {n0 n id : Nat} {H : List O} {T : TypeId} {lay : List LK} {xs : List (List C)} (hid : H[id]? = some (.arr T lay xs)) (hn : xs.length = n) : GFin n0 (.gr id) H (.own id 0 n) H := by
  intro w0 G0 G w v hH hv ha hle hfr h0
  exact ⟨G, hH, hv.gr_own (by rw [(hH.obj id _ hid).2.1, hn]), hle, hfr, h0⟩
/-- Equal neighbours, once. -/
def ddTo (zs : List Int) : Nat → List Int
  | 0 => []
  | i + 1 => if 0 < i ∧ zs.getD i 0 = zs.getD (i - 1) 0 then ddTo zs i else ddTo zs i ++ [zs.getD i 0]
def dd (zs : List Int) : List Int := ddTo zs zs.length
theorem ddTo_len (zs : List Int) : ∀ i, (ddTo zs i).length ≤ i
  | 0 => Nat.le_refl _
  | i + 1 => by
    have := ddTo_len zs i
    unfold ddTo
    split <;> simp <;> omega
theorem lt1 {l : List Nat} : ∀ i, i < 1 → (0 :: l).getD i 0 = i := fun i hi => by
  have : i = 0 := Nat.lt_one_iff.1 hi
  subst this; rfl
theorem x50 {zs : List Int} {xs : List (List C)} (hx : rowsI zs = xs) (hl : zs.length ≤ 1000000) :
    WR3 rf63 (fun r H' => ∃ ws : List Int, ws.length = zs.length ∧ r = .own 0 0 (dd zs).length ∧ H' = [.arr 3 i1 (rowsI ws)] ∧ ws.take (dd zs).length = dd zs) [.gr 0] [.arr 3 i1 xs] := by
  refine ⟨?_⟩
  generalize hE : stdE Try.prog tb3 = E
  generalize hP : Try.prog = P
  cbv
  refine Br_iff.2 ⟨fun h1 => ?_, fun h1 => ?_⟩
  · have hl2 : zs.length < 2 := by
      subst hP; subst hE; subst hx
      simp only [stdE, baseE, rowsI_len, decide_eq_true_eq] at h1
      omega
    have hdd : dd zs = zs := by
      match zs, hl2 with
      | [], _ => rfl
      | [z], _ => simp [dd, ddTo]
    rw [hdd]
    exact ⟨_, _, gfin_own rfl (by rw [← hx, rowsI_len]), zs, rfl, rfl, by rw [hx], by rw [List.take_length]⟩
  refine LoopW.inv (fun R R' s h k => RCode.wp_mono _ R R' s h k) (fun i : Nat => ⟨[.gr 0, .u, .c .nil, iC i, .u, .u, .u, .u, .u, .u, .u, .u, .u, .u, .u, .u, .u, .u, .u, .u, .u, .u, .u, .u, .u, .u, .u, .u, .u, .u, .u, .u, .u, .u, .u, .u, .u, .u, .u, .u, .u, .u, .u, .u, .u, .u, .u, .u, .u, .u, .u, .u, .u, .u, .u, .u, .u, .u, .u, .u, .u], [.arr 3 i1 xs]⟩)
    (fun i => 0 < i ∧ i ≤ zs.length ∧ ddTo zs i = zs.take i) (fun i => zs.length - i) 1 ?_ ?_ ?_
  · have hl2 : 2 ≤ zs.length := by
      subst hP; subst hE; subst hx
      simp only [stdE, baseE, rowsI_len, decide_eq_false_iff_not] at h1
      omega
    refine ⟨Nat.one_pos, by omega, ?_⟩
    cases zs with
    | nil => simp at hl2
    | cons z l => simp [ddTo]
  · refine GSt.ren [0] rfl rfl rfl lt1 (Nat.le_refl _) ?_ ?_
    · repeat' (first | exact trivial | exact Or.inl rfl | exact Or.inr rfl | refine And.intro ?_ ?_)
    · repeat' (first | exact trivial | exact Or.inr rfl | refine And.intro ?_ ?_)
  rintro i ⟨hi0, hi, hd⟩
  cbv
  refine Br_iff.2 ⟨fun h2 => ?_, fun h2 => ?_⟩
  · have hlt : i < zs.length := by
      subst hP; subst hE; subst hx
      simp only [stdE, baseE, rowsI_len, decide_eq_true_eq] at h2
      exact Int.ofNat_lt.1 h2
    have hw1 : IntKind.i64.wrap ((i : Int) - 1) = ((i - 1 : Nat) : Int) := by rw [wrap_in (by omega) (by omega)]; omega
    refine ⟨?_, h2, ?_, ?_, Br_iff.2 ⟨fun h3 => ⟨?_, ?_, ?_, ?_⟩, fun h3 => ⟨i + 1, ⟨?_, ?_, ?_⟩, ?_, ?_⟩⟩⟩
    · subst hP; subst hE; simp [stdE, baseE]
    · subst hP; subst hE; simp [stdE, baseE, hw1]
    · subst hP; subst hE; subst hx; simp [stdE, baseE, hw1, rowsI_len]; omega
    · subst hP; subst hE; simp [stdE, baseE]
    · subst hP; subst hE; subst hx; simp [stdE, baseE, rowsI_len]; omega
    · subst hP; subst hE; simp [stdE, baseE]
    · have h3' : zs.getD i 0 = zs.getD (i - 1) 0 := by
        subst hP; subst hE; subst hx
        simp [stdE, baseE, hw1] at h3
        rw [rowsI_get (by omega), rowsI_get (by omega)] at h3
        simp [List.getD, hlt, show i - 1 < zs.length by omega, h3]
      obtain ⟨m, hm⟩ : ∃ m : Int, (zs.length : Int) - i = m := ⟨_, rfl⟩
      refine LoopW.inv (fun R R' s h k => RCode.wp_mono _ R R' s h k) (fun q : List Int × Nat × Nat => ⟨[.gr 0, .u, .c .nil, iC q.2.2, .own 0 i m, iC q.2.1, .u, .u, .u, .u, .u, .u, .u, .u, .u, .u, .u, .u, .u, .u, .u, .u, .u, .u, .u, .u, .u, .u, .u, .u, .u, .u, .u, .u, .u, .u, .u, .u, .u, .u, .u, .u, .u, .u, .u, .u, .u, .u, .u, .u, .u, .u, .u, .u, .u, .u, .u, .u, .u, .u, .u], [.arr 3 i1 (rowsI q.1)]⟩)
        (fun q => q.1.length = zs.length ∧ 1 ≤ q.2.1 ∧ i + q.2.1 ≤ zs.length ∧ q.2.2 + 1 ≤ i + q.2.1 ∧ (ddTo zs (i + q.2.1)).length = q.2.2 ∧ q.1.take q.2.2 = ddTo zs (i + q.2.1) ∧ ∀ j, i + q.2.1 ≤ j + 1 → j < zs.length → q.1.getD j 0 = zs.getD j 0) (fun q => zs.length - q.2.1) (zs, 1, i) ?_ ?_ ?_
      · have hd1 : ddTo zs (i + 1) = zs.take i := by rw [ddTo, if_pos ⟨hi0, h3'⟩, hd]
        exact ⟨rfl, Nat.le_refl _, hlt, Nat.le_refl _, by rw [hd1]; simp; omega, hd1.symm, fun _ _ _ => rfl⟩
      · refine GSt.ren [0] rfl rfl rfl lt1 (Nat.le_refl _) ?_ ?_
        · repeat' (first | exact trivial | exact Or.inl rfl | exact Or.inr rfl | refine And.intro ?_ ?_)
          all_goals (
            right
            subst hP; subst hE; subst hx
            simp [stdE, baseE, A.ren, rnσ, rowsI_len, hm])
        · subst hx; exact ⟨Or.inr rfl, trivial⟩
      rintro ⟨ws, k2, k⟩ ⟨g1, g2, g3, g4, g5, g6, g7⟩
      dsimp only at g1 g2 g3 g4 g5 g6 g7 ⊢
      obtain ⟨w, hw⟩ : ∃ w, rowsI ws = w := ⟨_, rfl⟩
      rw [hw]
      cbv
      subst hP; subst hE
      simp only [Br_iff, stdE, baseE, decide_eq_true_eq, decide_eq_false_iff_not, ofNat_toNat]
      have hwl : w.length = zs.length := by rw [← hw, rowsI_len, g1]
      have hm2 : m + (i : Int) = (zs.length : Int) := by rw [← hm]; exact Int.sub_add_cancel _ _
      have hk2 : IntKind.i64.wrap (Int.ofNat k2 - 1) = ((k2 - 1 : Nat) : Int) := by rw [wrap_in (by simp; omega) (by simp; omega)]; simp; omega
      have a1 : (Int.ofNat i + Int.ofNat k2).toNat = i + k2 := by simp; omega
      have a2 : (Int.ofNat i + ((k2 - 1 : Nat) : Int)).toNat = i + k2 - 1 := by simp; omega
      rw [hk2, a1, a2]
      have e1 : (cellAt w (i + k2) 0).gi = ws.getD (i + k2) 0 := by rw [← hw, rowsI_getD]
      have e2 : (cellAt w (i + k2 - 1) 0).gi = ws.getD (i + k2 - 1) 0 := by rw [← hw, rowsI_getD]
      rw [e1, e2]
      have hstep : ddTo zs (i + (k2 + 1)) = if 0 < i + k2 ∧ zs.getD (i + k2) 0 = zs.getD (i + k2 - 1) 0 then ddTo zs (i + k2) else ddTo zs (i + k2) ++ [zs.getD (i + k2) 0] := rfl
      refine ⟨fun h4 => ?_, fun h4 => ?_⟩
      · have hk : i + k2 < zs.length := by simp at h4; omega
        rw [g7 (i + k2) (by omega) hk, g7 (i + k2 - 1) (by omega) (by omega)]
        refine ⟨by simp, h4, by omega, by simp at h4; omega, fun h5 => ⟨by simp, h4, by simp, by simp; omega, (ws.set k (zs.getD (i + k2) 0), k2 + 1, k + 1), ⟨?_, ?_, ?_, ?_, ?_, ?_, ?_⟩, ?_, ?_⟩, fun h5 => ⟨(ws, k2 + 1, k), ⟨?_, ?_, ?_, ?_, ?_, ?_, ?_⟩, ?_, ?_⟩⟩
        · simp [g1]
        · simp
        · simp; omega
        · simp; omega
        · rw [if_neg (by simp at h5; simp [h5])] at hstep
          simp [hstep, g5]
        · rw [if_neg (by simp at h5; simp [h5])] at hstep
          dsimp only
          rw [hstep, ← g6, List.take_add_one, List.take_set_of_le (Nat.le_refl _)]
          simp [show k < ws.length by omega]
        · intro j hj1 hj2
          dsimp only at hj1 ⊢
          rw [← g7 j (by omega) hj2]
          simp [List.getD, show k ≠ j by omega]
        · refine GSt.ren [0] rfl rfl rfl lt1 (Nat.le_refl _) ?_ ?_
          · repeat' (first | exact trivial | exact Or.inl rfl | exact Or.inr rfl | refine And.intro ?_ ?_)
            all_goals (
              right
              simp only [A.ren, A.c.injEq, C.int.injEq, true_and]
              rw [wrap_in (by simp; omega) (by simp; omega)]
              simp)
          · refine ⟨Or.inr ?_, trivial⟩
            rw [← hw, rowsI_upd]
            rfl
        · dsimp only; omega
        · exact g1
        · simp
        · simp; omega
        · simp; omega
        · rw [if_pos (by simp at h5; simp [h5]; omega)] at hstep
          dsimp only
          rw [hstep, g5]
        · rw [if_pos (by simp at h5; simp [h5]; omega)] at hstep
          dsimp only
          rw [hstep, g6]
        · intro j hj1 hj2
          exact g7 j (by dsimp only at hj1; omega) hj2
        · refine GSt.ren [0] rfl rfl rfl lt1 (Nat.le_refl _) ?_ ?_
          · repeat' (first | exact trivial | exact Or.inl rfl | exact Or.inr rfl | refine And.intro ?_ ?_)
            all_goals (
              right
              simp only [A.ren, A.c.injEq, C.int.injEq, true_and]
              rw [wrap_in (by simp; omega) (by simp; omega)]
              simp)
          · refine ⟨Or.inr ?_, trivial⟩
            rw [← hw]
            rfl
        · dsimp only; omega
      · have hk : i + k2 = zs.length := by simp at h4; omega
        rw [hk] at g5 g6
        have hkl : k ≤ zs.length := by rw [← g5]; exact ddTo_len _ _
        refine ⟨by simp, by simp; omega, Int.le_refl _, Int.le_refl _, by simp, ?_, ⟨.own 0 0 (dd zs).length, [.arr 3 i1 (rowsI (ws.take k ++ List.replicate (zs.length - k) 0))], ?_, ws.take k ++ List.replicate (zs.length - k) 0, ?_, rfl, rfl, ?_⟩⟩
        · simp; omega
        · have q1 : (Int.ofNat k - 0 : Int) = ((dd zs).length : Int) := by rw [dd, g5]; simp
          rw [q1]
          have q2 : List.drop (Int.toNat 0) (List.take k w) ++ (List.replicate ((w.length : Int) - Int.ofNat k).toNat [C.int IntKind.i64 0] ++ List.drop (Int.ofNat k + ((w.length : Int) - Int.ofNat k)).toNat (List.take (w.length : Int).toNat w)) = rowsI (ws.take k ++ List.replicate (zs.length - k) 0) := by
            rw [show ((w.length : Int) - Int.ofNat k).toNat = zs.length - k by simp; omega, show (Int.ofNat k + ((w.length : Int) - Int.ofNat k)).toNat = w.length by simp; omega, ← hw]
            simp [rowsI, List.map_take]
          rw [q2]
          exact .refl _ _ _
        · simp; omega
        · rw [dd, g5, List.take_append_of_le_length (by simp; omega), List.take_take, Nat.min_self, g6]
    · exact Nat.succ_pos _
    · exact hlt
    · have h3' : ¬ zs.getD i 0 = zs.getD (i - 1) 0 := by
        subst hP; subst hE; subst hx
        simp [stdE, baseE, hw1] at h3
        rw [rowsI_getD, rowsI_getD] at h3
        exact h3
      rw [ddTo, if_neg (fun h => h3' h.2), hd, List.take_add_one]
      simp [List.getD, hlt]
    · refine GSt.ren [0] rfl rfl rfl lt1 (Nat.le_refl _) ?_ ?_
      · repeat' (first | exact trivial | exact Or.inl rfl | exact Or.inr rfl | refine And.intro ?_ ?_)
        all_goals (
          right
          subst hP; subst hE
          simp only [A.ren, A.c.injEq, C.int.injEq, true_and, stdE, baseE]
          rw [wrap_in (by simp; omega) (by simp; omega)]
          simp)
      · exact ⟨Or.inr rfl, trivial⟩
    · omega
  · have hge : i = zs.length := by
      subst hP; subst hE; subst hx
      simp only [stdE, baseE, rowsI_len, decide_eq_false_iff_not] at h2
      have : ¬ i < zs.length := fun h => h2 (Int.ofNat_lt.2 h)
      omega
    have hdd : dd zs = zs := by rw [dd, ← hge, hd, hge, List.take_length]
    rw [hdd]
    exact ⟨_, _, gfin_own rfl (by rw [← hx, rowsI_len]), zs, rfl, rfl, by rw [hx], by rw [List.take_length]⟩
theorem q50 {zs : List Int} (hl : zs.length ≤ 1000000) : ACalls Try.prog 63 [.gr 0] [.arr 3 i1 (rowsI zs)] fun r H' => ∃ ws : List Int, ws.length = zs.length ∧ r = .own 0 0 (dd zs).length ∧ H' = [.arr 3 i1 (rowsI ws)] ∧ ws.take (dd zs).length = dd zs :=
  qr3_of h63 (x50 rfl hl)
abbrev R4 := Int × Int × Int × Int
def rowsR (rs : List R4) : List (List C) := rs.map fun r => [.int .i64 r.1, .int .i64 r.2.1, .int .i64 r.2.2.1, .int .i64 r.2.2.2]
theorem rowsR_len (rs : List R4) : (rowsR rs).length = rs.length := by simp [rowsR]
theorem rowsR_getD (rs : List R4) (i : Nat) : (cellAt (rowsR rs) i 0).gi = (rs.getD i (0, 0, 0, 0)).1 ∧ (cellAt (rowsR rs) i 1).gi = (rs.getD i (0, 0, 0, 0)).2.1 ∧ (cellAt (rowsR rs) i 2).gi = (rs.getD i (0, 0, 0, 0)).2.2.1 ∧ (cellAt (rowsR rs) i 3).gi = (rs.getD i (0, 0, 0, 0)).2.2.2 := by
  by_cases h : i < rs.length
  · simp [cellAt, rowsR, List.getD, h, C.gi]
  · simp [cellAt, rowsR, List.getD, Nat.le_of_not_lt h, C.gi]
theorem rowsR_upd (rs : List R4) (k : Nat) (a b c d : Int) : updC (updC (updC (updC (rowsR rs) k 3 (.int .i64 d)) k 2 (.int .i64 c)) k 1 (.int .i64 b)) k 0 (.int .i64 a) = rowsR (rs.set k (a, b, c, d)) := by
  unfold updC rowsR
  by_cases h : k < rs.length
  · simp [List.getD, h, setC, List.map_set]
  · simp [List.set_eq_of_length_le, Nat.le_of_not_lt h]
/-- The closure of cover: what is to go out of a strip. -/
def delB (sd : List (List C)) (i : Int) (l r : Int) : Bool := if (cellAt sd (i - 1).toNat 0).gi < l then true else decide (r < (cellAt sd i.toNat 0).gi)
def delAt (xs sd : List (List C)) (i : Int) (j : Nat) : Bool := delB sd i (ce xs j 0) (ce xs j 1)
def ixF (n : Nat) (p : Nat → Bool) (j : Nat) : Int := if j < n then (if p j then j else ixF n p (j + 1)) else -1
termination_by n - j
theorem ixF_lt {n : Nat} {p : Nat → Bool} {j : Nat} (h : j < n) : ixF n p j = if p j then (j : Int) else ixF n p (j + 1) := by rw [ixF, if_pos h]
theorem ixF_ge {n : Nat} {p : Nat → Bool} {j : Nat} (h : ¬ j < n) : ixF n p j = -1 := by rw [ixF, if_neg h]
/-- A slice variable, and an integer variable, told as data. -/
abbrev bS (sd : List (List C)) : A := .el [.sl [.int .i64]] [[.sl [.int .i64] sd]] 0 0
abbrev bI (i : Int) : A := .el [.int .i64] [[.int .i64 i]] 0 0
def tb4 (f : FuncId) (ds : List A) : List C :=
  match ds with
  | [.agg [.c (.int _ l), .c (.int _ r), .c (.int _ _), .c (.int _ _)], .el _ [[.sl _ sd]] _ _, .el _ [[.int _ i]] _ _] => match f with
    | 66 => [.bool (delB sd i l r)]
    | _ => []
  | [.c (.sl _ xs), .fn _ [.el _ [[.sl _ sd]] _ _, .el _ [[.int _ i]] _ _]] => match f with
    | 79 => [.int .i64 (ixF xs.length (delAt xs sd i) 0)]
    | _ => []
  | _ => tb3 f ds
abbrev PC4 (f : FuncId) (rty : List (Bool × List LK)) (ds : List A) : Prop := PureC Try.prog f rty ds fun i => (tb4 f ds).getD i .nil
structure WP4 (f : RFn) (rty : List (Bool × List LK)) (l : List C) (ds : List A) : Prop where
  h : f.body.wp Try.prog (stdE Try.prog tb4) 0 (finP (stdE Try.prog tb4) (getL l) rty f.results) ⟨ds ++ List.replicate (f.ntmps - ds.length) .u, []⟩
theorem pc4_of {D : Opts} {f : FuncId} {rf : RFn} {rty : List (Bool × List LK)} {ds : List A} (h : fnR Try.prog D f = some rf) (hn : ((Try.prog.funcs[f]?).map (·.name == "runtime.NumGoroutine")).getD true = false)
    {l : List C} (hl : tb4 f ds = l) (hw : WP4 rf rty l ds) : PC4 f rty ds := by
  have e : (fun i => (tb4 f ds).getD i .nil) = getL l := by rw [hl]; rfl
  show PureC _ _ _ _ (fun i => (tb4 f ds).getD i .nil)
  rw [e]
  exact PureC_fn tb4 mo h hn hw.h
structure WR4 (f : RFn) (Q : A → List O → Prop) (ds : List A) (H : List O) : Prop where
  h : f.body.wp Try.prog (stdE Try.prog tb4) H.length (finR (stdE Try.prog tb4) H.length f.results Q) ⟨ds ++ List.replicate (f.ntmps - ds.length) .u, H⟩
theorem qr4_of {D : Opts} {f : FuncId} {rf : RFn} {ds : List A} {H : List O} {Q : A → List O → Prop} (h : fnR Try.prog D f = some rf) (hw : WR4 rf Q ds H) : ACalls Try.prog f ds H Q :=
  ACalls_of (tbl := tb4) mo h (fun _ _ h => h) hw.h
theorem r53 (l r a b i : Int) (sd : List (List C)) : tb4 66 [rc l r a b, bS sd, bI i] = [.bool (delB sd i l r)] := rfl
theorem r63 (xs sd : List (List C)) (i : Int) : tb4 79 [lC xs, .fn 66 [bS sd, bI i]] = [.int .i64 (ixF xs.length (delAt xs sd i) 0)] := rfl
theorem cell11 (c : C) : cellAt [[c]] (Int.toNat 0) 0 = c := rfl
theorem x53 {l r a b i : Int} {sd : List (List C)} {v : Bool} (h1 : 1 ≤ i) (h2 : i < sd.length) (h3 : sd.length ≤ 1000000) (hv : delB sd i l r = v) : WP4 rf66 [kB] [.bool v] [rc l r a b, bS sd, bI i] := by
  refine ⟨?_⟩
  generalize hE : stdE Try.prog tb4 = E
  generalize hP : Try.prog = P
  cbv
  subst hP; subst hE
  simp only [Imp_iff, imp_self, true_and, stdE, baseE, decide_eq_true_eq, cell11, gi_int, gl_sl]
  have h2' : i < (sd.length : Int) := h2
  rw [wrap_in (by omega) (by omega)]
  refine ⟨by omega, by omega, fun _ => by omega, fun _ => h2, ?_⟩
  rw [← hv]
  exact ⟨rfl, trivial⟩
theorem g53 {l r a b i : Int} {sd : List (List C)} (h1 : 1 ≤ i) (h2 : i < sd.length) (h3 : sd.length ≤ 1000000) : PC4 66 [kB] [rc l r a b, bS sd, bI i] := pc4_of h66 (by kernel_rfl) (r53 l r a b i sd) (x53 h1 h2 h3 rfl)

theorem x63 {xs sd : List (List C)} {i v : Int} (hl : xs.length ≤ 1000000) (h1 : 1 ≤ i) (h2 : i < sd.length) (h3 : sd.length ≤ 1000000) (hv : ixF xs.length (delAt xs sd i) 0 = v) : WP4 rf79 [kI] [.int .i64 v] [lC xs, .fn 66 [bS sd, bI i]] := by
  refine ⟨?_⟩
  generalize hE : stdE Try.prog tb4 = E
  generalize hP : Try.prog = P
  cbv
  refine LoopW.inv (fun R R' s h k => RCode.wp_mono _ R R' s h k) (fun j : Nat => ⟨[lC xs, .fn 66 [bS sd, bI i], .u, .u, .u, .u, .u, iC (E.len xs), iC j, .u, .u, .u, .u, .u, .u, .u, .u, .u, .u], []⟩)
    (fun j => j ≤ xs.length ∧ ixF xs.length (delAt xs sd i) j = v) (fun j => xs.length - j) 0 ?_ ?_ ?_
  · exact ⟨Nat.zero_le _, hv⟩
  · refine GSt.ren [] rfl rfl rfl (fun i hi => absurd hi (Nat.not_lt_zero i)) (Nat.zero_le _) ?_ trivial
    repeat' (first | exact trivial | exact Or.inl rfl | exact Or.inr rfl | refine And.intro ?_ ?_)
  rintro j ⟨hj, hf⟩
  cbv
  subst hP; subst hE
  simp only [Br_iff, stdE, baseE, decide_eq_true_eq, decide_eq_false_iff_not, and_true]
  refine ⟨fun h4 => ⟨Int.natCast_nonneg j, h4, g53 h1 h2 h3, ?_⟩, fun h4 => ?_⟩
  · have hlt : j < xs.length := by simpa using h4
    have hu := ixF_lt (p := delAt xs sd i) hlt
    simp only [r53, List.getD_cons_zero, gb_bool, ofNat_toNat]
    refine ⟨fun h5 => ?_, fun h5 => ⟨j + 1, ⟨hlt, ?_⟩, ?_, by omega⟩⟩
    · rw [show delAt xs sd i j = true from h5, if_pos rfl] at hu
      rw [← hf, hu]; rfl
    · rw [show delAt xs sd i j = false from h5, if_neg (by simp)] at hu
      rw [← hf, hu]
    · refine GSt.ren [] rfl rfl rfl (fun i hi => absurd hi (Nat.not_lt_zero i)) (Nat.zero_le _) ?_ trivial
      repeat' (first | exact trivial | exact Or.inl rfl | exact Or.inr rfl | refine And.intro ?_ ?_)
      all_goals (
        right
        simp only [A.ren, A.c.injEq, C.int.injEq, true_and]
        rw [wrap_in (by simp; omega) (by simp; omega)]
        simp)
  · have hge : ¬ j < xs.length := by simpa using h4
    rw [ixF_ge hge] at hf
    rw [← hf]
theorem g63 {xs sd : List (List C)} {i : Int} (hl : xs.length ≤ 1000000) (h1 : 1 ≤ i) (h2 : i < sd.length) (h3 : sd.length ≤ 1000000) : PC4 79 [kI] [lC xs, .fn 66 [bS sd, bI i]] := pc4_of h79 (by kernel_rfl) (r63 xs sd i) (x63 hl h1 h2 h3 rfl)
theorem x52 {xs : List (List C)} (hl : xs.length ≤ 1000000) : WR4 rf65 (fun r H' => r = .gr 0 ∧ H' = [.arr 36 i4 xs]) [lC xs] [] := by
  refine ⟨?_⟩
  generalize hE : stdE Try.prog tb4 = E
  generalize hP : Try.prog = P
  cbv
  refine HIsn.mk fun b hb => ?_
  cbv
  refine Br_iff.2 ⟨fun h1 => ?_, fun h1 => ?_⟩
  · have hx : xs = [] := hb h1
    subst hx
    exact ⟨.gr 0, [.arr 36 i4 []], GFin.of (GSt.nil 0 36 i4 rfl), rfl, rfl⟩
  · subst hP; subst hE
    simp only [stdE, baseE, decide_eq_true_eq]
    refine ⟨?_, ⟨.gr 0, [.arr 36 i4 xs], GFin.of (GSt.ren [1] rfl rfl rfl (fun i hi => absurd hi (Nat.not_lt_zero i)) (Nat.zero_le _) ?_ ?_), rfl, rfl⟩⟩
    · simp; omega
    · exact ⟨Or.inr rfl, trivial⟩
    · exact ⟨Or.inr rfl, trivial⟩
theorem q52 {xs : List (List C)} (hl : xs.length ≤ 1000000) : ACalls Try.prog 65 [lC xs] [] (fun r H' => r = .gr 0 ∧ H' = [.arr 36 i4 xs]) := qr4_of h65 (x52 hl)
theorem lt4 {l : List Nat} : ∀ i, i < 4 → (0 :: 1 :: 2 :: 3 :: l).getD i 0 = i := fun i hi => by
  have : i = 0 ∨ i = 1 ∨ i = 2 ∨ i = 3 := by omega
  rcases this with rfl | rfl | rfl | rfl <;> rfl
theorem ixF_spec (n : Nat) (p : Nat → Bool) : ∀ k j, n - j = k → (ixF n p j = -1 ∧ ∀ m, j ≤ m → m < n → p m = false) ∨ ∃ m, j ≤ m ∧ m < n ∧ ixF n p j = m ∧ p m = true ∧ ∀ q, j ≤ q → q < m → p q = false := by
  intro k
  induction k with
  | zero => intro j h; exact .inl ⟨ixF_ge (by omega), fun m h1 h2 => by omega⟩
  | succ k ih =>
    intro j h
    have hu := ixF_lt (p := p) (show j < n by omega)
    cases hp : p j with
    | true =>
      rw [hp, if_pos rfl] at hu
      exact .inr ⟨j, Nat.le_refl _, by omega, hu, hp, fun q h1 h2 => by omega⟩
    | false =>
      rw [hp, if_neg (by simp)] at hu
      have step : ∀ q, j ≤ q → (j + 1 ≤ q → p q = false) → p q = false := fun q h1 h2 => by
        by_cases e : q = j
        · subst e; exact hp
        · exact h2 (by omega)
      rcases ih (j + 1) (by omega) with ⟨h1, h2⟩ | ⟨m, h1, h2, h3, h4, h5⟩
      · exact .inl ⟨hu.trans h1, fun m g1 g2 => step m g1 fun g => h2 m g g2⟩
      · exact .inr ⟨m, by omega, h2, hu.trans h3, h4, fun q g1 g2 => step q g1 fun g => h5 q g g2⟩
/-- What is left of rectangles where those are taken out. -/
def keepR (sd : List (List C)) (i : Int) (rs : List R4) : List R4 := rs.filter fun r => !delB sd i r.1 r.2.1
theorem x51 {rs : List R4} {xs sd sd' : List (List C)} {i k : Int} (hx : rowsR rs = xs) (hsd : List.drop (Int.toNat 0) (List.take (0 + k).toNat sd') = sd) (hl : rs.length ≤ 1000000) (h1 : 1 ≤ i) (h2 : i < sd.length) (h3 : sd.length ≤ 1000000) :
    WR4 rf64 (fun r H' => ∃ ws : List R4, ws.length = rs.length ∧ r = .own 0 0 (keepR sd i rs).length ∧ H' = [.arr 36 i4 (rowsR ws), .box 76 [.own 3 0 k], .box 3 [iC i], .arr 3 i1 sd'] ∧ ws.take (keepR sd i rs).length = keepR sd i rs)
      [.gr 0, .fn 66 [.ptr 1 0, .ptr 2 0]] [.arr 36 i4 xs, .box 76 [.own 3 0 k], .box 3 [iC i], .arr 3 i1 sd'] := by
  have hxl : xs.length = rs.length := by rw [← hx, rowsR_len]
  have c63 := g63 (xs := xs) (sd := sd) (i := i) (by omega) h1 h2 h3
  have s63 := r63 xs sd i
  have hsp := ixF_spec xs.length (delAt xs sd i) _ 0 rfl
  generalize hv : ixF xs.length (delAt xs sd i) 0 = v at hsp s63
  refine ⟨?_⟩
  generalize hE : stdE Try.prog tb4 = E
  generalize hP : Try.prog = P
  cbv
  refine ⟨?_, Br_iff.2 ⟨fun h4 => ?_, fun h4 => ?_⟩⟩
  · subst hP; subst hE
    simp only [stdE, baseE, hsd]
    exact c63
  · have hv1 : v = -1 := by
      subst hP; subst hE
      simp only [stdE, baseE, hsd, s63, List.getD_cons_zero, gi_int] at h4
      simpa using h4
    have hk : keepR sd i rs = rs := by
      rcases hsp with ⟨_, hn⟩ | ⟨m, _, _, hm, _⟩
      · refine List.filter_eq_self.2 fun r hr => ?_
        obtain ⟨j, hj, rfl⟩ := List.mem_iff_getElem.1 hr
        have := hn j (Nat.zero_le _) (by omega)
        rw [← hx] at this
        obtain ⟨q0, q1, _⟩ := rowsR_getD rs j
        unfold delAt ce at this
        rw [q0, q1] at this
        simp only [List.getD, hj, List.getElem?_eq_getElem, Option.getD_some] at this
        rw [this]; rfl
      · rw [hv1] at hm
        have : (-1 : Int) = (m : Int) := hm
        omega
    rw [hk]
    exact ⟨_, _, gfin_own rfl hxl, rs, rfl, rfl, by rw [hx], by rw [List.take_length]⟩
  have hv2 : ∃ m, m < rs.length ∧ v = (m : Int) ∧ delAt xs sd i m = true ∧ ∀ q, q < m → delAt xs sd i q = false := by
    rcases hsp with ⟨e, _⟩ | ⟨m, _, a, b, c, d⟩
    · exfalso
      subst hP; subst hE
      simp only [stdE, baseE, hsd, s63, List.getD_cons_zero, gi_int, e] at h4
      simp at h4
    · exact ⟨m, by omega, b, c, fun q => d q (Nat.zero_le _)⟩
  obtain ⟨m0, m1, m2, m3, m4⟩ := hv2
  have hdel : ∀ j, (h : j < rs.length) → delAt xs sd i j = delB sd i (rs[j]).1 (rs[j]).2.1 := fun j h => by
    obtain ⟨q0, q1, _⟩ := rowsR_getD rs j
    unfold delAt ce
    rw [← hx, q0, q1]
    simp only [List.getD, h, List.getElem?_eq_getElem, Option.getD_some]
  refine LoopW.inv (fun R R' s h k => RCode.wp_mono _ R R' s h k) (fun q : List R4 × Nat × Nat => ⟨[.gr 0, .fn 66 [.ptr 1 0, .ptr 2 0], .u, .u, .c .nil, iC q.2.2, iC q.2.1, .u, .u, .u, .u, .u, .u, .u, .u, .u, .u, .u, .u, .u, .u, .u, .u, .u, .u, .u, .u, .u, .u, .u, .u, .u, .u, .u, .u, .u, .u, .u, .u, .u, .u, .u], [.arr 36 i4 (rowsR q.1), .box 76 [.own 3 0 k], .box 3 [iC i], .arr 3 i1 sd']⟩)
    (fun q => q.1.length = rs.length ∧ q.2.1 ≤ rs.length ∧ q.2.2 + 1 ≤ q.2.1 ∧ (keepR sd i (rs.take q.2.1)).length = q.2.2 ∧ q.1.take q.2.2 = keepR sd i (rs.take q.2.1) ∧ ∀ j, q.2.1 ≤ j → j < rs.length → q.1.getD j (0, 0, 0, 0) = rs.getD j (0, 0, 0, 0)) (fun q => rs.length - q.2.1) (rs, m0 + 1, m0) ?_ ?_ ?_
  · have hk : keepR sd i (rs.take (m0 + 1)) = rs.take m0 := by
      rw [List.take_add_one, List.getElem?_eq_getElem m1]
      unfold keepR
      rw [List.filter_append, List.filter_eq_self.2]
      · have := hdel m0 m1
        rw [m3] at this
        simp [← this]
      · intro r hr
        obtain ⟨j, hj, rfl⟩ := List.mem_iff_getElem.1 hr
        simp at hj
        rw [List.getElem_take, ← hdel j (by omega), m4 j (by omega)]; rfl
    exact ⟨rfl, m1, Nat.le_refl _, by rw [hk]; simp; omega, hk.symm, fun _ _ _ => rfl⟩
  · refine GSt.ren [0, 1, 2, 3] rfl rfl rfl lt4 (Nat.le_refl _) ?_ ?_
    · repeat' (first | exact trivial | exact Or.inl rfl | exact Or.inr rfl | refine And.intro ?_ ?_)
      all_goals (
        right
        subst hP; subst hE
        simp only [stdE, baseE, hsd, s63, List.getD_cons_zero, gi_int, A.ren, A.c.injEq, C.int.injEq, true_and, m2])
      rw [wrap_in (by omega) (by omega)]
      simp
    · subst hx; exact ⟨Or.inr rfl, Or.inr rfl, Or.inr rfl, Or.inr rfl, trivial⟩
  rintro ⟨ws, j, k'⟩ ⟨g1, g2, g3, g4, g5, g6⟩
  dsimp only at g1 g2 g3 g4 g5 g6 ⊢
  obtain ⟨w, hw⟩ : ∃ w, rowsR ws = w := ⟨_, rfl⟩
  rw [hw]
  cbv
  subst hP; subst hE
  simp only [Br_iff, stdE, baseE, decide_eq_true_eq, decide_eq_false_iff_not, ofNat_toNat, hsd]
  have hwl : w.length = rs.length := by rw [← hw, rowsR_len, g1]
  refine ⟨fun h5 => ?_, fun h5 => ?_⟩
  · have hlt : j < rs.length := by rw [← hwl]; exact Int.ofNat_lt.1 h5
    have hlt' : j < ws.length := by omega
    obtain ⟨r, hr⟩ : ∃ r, rs.getD j (0, 0, 0, 0) = r := ⟨_, rfl⟩
    have hrj : rs[j] = r := by rw [← hr]; simp [List.getD, hlt]
    obtain ⟨e0, e1, e2, e3⟩ := rowsR_getD ws j
    rw [g6 j (Nat.le_refl _) hlt, hr, hw] at e0 e1 e2 e3
    simp only [e0, e1, e2, e3, r53, List.getD_cons_zero, gb_bool]
    have hstep : keepR sd i (rs.take (j + 1)) = if delB sd i r.1 r.2.1 then keepR sd i (rs.take j) else keepR sd i (rs.take j) ++ [r] := by
      rw [List.take_add_one, List.getElem?_eq_getElem hlt, hrj]
      unfold keepR
      rw [List.filter_append]
      cases hb : delB sd i r.1 r.2.1 with
      | true => simp [hb]
      | false => simp [hb]
    refine ⟨Int.natCast_nonneg j, h5, g53 h1 h2 h3, fun h6 => ⟨Int.natCast_nonneg k', ?_, (ws.set k' r, j + 1, k' + 1), ⟨?_, ?_, ?_, ?_, ?_, ?_⟩, ?_, ?_⟩, fun h6 => ⟨(ws, j + 1, k'), ⟨?_, ?_, ?_, ?_, ?_, ?_⟩, ?_, ?_⟩⟩
    · rw [hwl]; exact Int.ofNat_lt.2 (by omega)
    · simp [g1]
    · exact hlt
    · simp; omega
    · have h7 : delB sd i r.1 r.2.1 = false := by simpa using h6
      rw [h7, if_neg (by simp)] at hstep
      simp [hstep, g4]
    · have h7 : delB sd i r.1 r.2.1 = false := by simpa using h6
      rw [h7, if_neg (by simp)] at hstep
      dsimp only
      rw [hstep, ← g5, List.take_add_one, List.take_set_of_le (Nat.le_refl _)]
      simp [show k' < ws.length by omega]
    · intro m hm1 hm2
      dsimp only at hm1 ⊢
      rw [← g6 m (by omega) hm2]
      simp [List.getD, show k' ≠ m by omega]
    · refine GSt.ren [0, 1, 2, 3] rfl rfl rfl lt4 (Nat.le_refl _) ?_ ?_
      · repeat' (first | exact trivial | exact Or.inl rfl | exact Or.inr rfl | refine And.intro ?_ ?_)
        all_goals (
          right
          simp only [A.ren, A.c.injEq, C.int.injEq, true_and]
          rw [wrap_in (by simp; omega) (by simp; omega)]
          simp)
      · refine ⟨Or.inr ?_, Or.inr rfl, Or.inr rfl, Or.inr rfl, trivial⟩
        rw [← hw, rowsR_upd]
        rfl
    · dsimp only; omega
    · exact g1
    · exact hlt
    · simp; omega
    · have h7 : delB sd i r.1 r.2.1 = true := by simpa using h6
      rw [h7, if_pos rfl] at hstep
      dsimp only
      rw [hstep, g4]
    · have h7 : delB sd i r.1 r.2.1 = true := by simpa using h6
      rw [h7, if_pos rfl] at hstep
      dsimp only
      rw [hstep, g5]
    · intro m hm1 hm2
      exact g6 m (by dsimp only at hm1; omega) hm2
    · refine GSt.ren [0, 1, 2, 3] rfl rfl rfl lt4 (Nat.le_refl _) ?_ ?_
      · repeat' (first | exact trivial | exact Or.inl rfl | exact Or.inr rfl | refine And.intro ?_ ?_)
        all_goals (
          right
          simp only [A.ren, A.c.injEq, C.int.injEq, true_and]
          rw [wrap_in (by simp; omega) (by simp; omega)]
          simp)
      · refine ⟨Or.inr ?_, Or.inr rfl, Or.inr rfl, Or.inr rfl, trivial⟩
        rw [← hw]
        rfl
    · dsimp only; omega
  · have hge : j = rs.length := by
      have : ¬ j < rs.length := fun h => h5 (by rw [hwl]; exact Int.ofNat_lt.2 h)
      omega
    rw [hge, List.take_length] at g4 g5
    have hkl : k' < rs.length := by omega
    refine ⟨by simp, by simp; omega, Int.le_refl _, Int.le_refl _, by simp, ?_, ⟨.own 0 0 (keepR sd i rs).length, [.arr 36 i4 (rowsR (ws.take k' ++ List.replicate (rs.length - k') (0, 0, 0, 0))), .box 76 [.own 3 0 k], .box 3 [iC i], .arr 3 i1 sd'], ?_, ws.take k' ++ List.replicate (rs.length - k') (0, 0, 0, 0), ?_, rfl, rfl, ?_⟩⟩
    · simp; omega
    · have q1 : (Int.ofNat k' - 0 : Int) = ((keepR sd i rs).length : Int) := by rw [g4]; simp
      rw [q1]
      have q2 : List.drop (Int.toNat 0) (List.take k' w) ++ (List.replicate ((w.length : Int) - Int.ofNat k').toNat [C.int IntKind.i64 0, C.int IntKind.i64 0, C.int IntKind.i64 0, C.int IntKind.i64 0] ++ List.drop (Int.ofNat k' + ((w.length : Int) - Int.ofNat k')).toNat (List.take (w.length : Int).toNat w)) = rowsR (ws.take k' ++ List.replicate (rs.length - k') (0, 0, 0, 0)) := by
        rw [show ((w.length : Int) - Int.ofNat k').toNat = rs.length - k' by simp; omega, show (Int.ofNat k' + ((w.length : Int) - Int.ofNat k')).toNat = w.length by simp; omega, ← hw]
        simp [rowsR, List.map_take]
      rw [q2]
      refine GFin.of (GSt.ren [0, 1, 2, 3] rfl rfl rfl lt4 (Nat.le_refl _) ?_ ?_)
      · exact ⟨Or.inr rfl, trivial⟩
      · exact ⟨Or.inr rfl, Or.inr rfl, Or.inr rfl, Or.inr rfl, trivial⟩
    · simp; omega
    · rw [g4, List.take_append_of_le_length (by simp; omega), List.take_take, Nat.min_self, g5]
theorem q51 {rs : List R4} {sd sd' : List (List C)} {i k : Int} (hsd : List.drop (Int.toNat 0) (List.take (0 + k).toNat sd') = sd) (hl : rs.length ≤ 1000000) (h1 : 1 ≤ i) (h2 : i < sd.length) (h3 : sd.length ≤ 1000000) :
    ACalls Try.prog 64 [.gr 0, .fn 66 [.ptr 1 0, .ptr 2 0]] [.arr 36 i4 (rowsR rs), .box 76 [.own 3 0 k], .box 3 [iC i], .arr 3 i1 sd'] fun r H' => ∃ ws : List R4, ws.length = rs.length ∧ r = .own 0 0 (keepR sd i rs).length ∧
      H' = [.arr 36 i4 (rowsR ws), .box 76 [.own 3 0 k], .box 3 [iC i], .arr 3 i1 sd'] ∧ ws.take (keepR sd i rs).length = keepR sd i rs :=
  qr4_of h64 (x51 rfl hsd hl h1 h2 h3)
/-- A rectangle within the web. -/
def okR (r : R4) : Prop := 0 ≤ r.1 ∧ r.1 ≤ r.2.1 ∧ r.2.1 ≤ 12000 ∧ 0 ≤ r.2.2.1 ∧ r.2.2.1 ≤ r.2.2.2 ∧ r.2.2.2 ≤ 17179869184
abbrev r0 : R4 := (0, 0, 0, 0)
/-- The sides of the first i rectangles. -/
def sidesTo (rs : List R4) : Nat → List Int
  | 0 => []
  | i + 1 => sidesTo rs i ++ [(rs.getD i r0).1, (rs.getD i r0).2.1]
theorem sidesTo_len (rs : List R4) : ∀ i, (sidesTo rs i).length = 2 * i
  | 0 => rfl
  | i + 1 => by rw [sidesTo, List.length_append, sidesTo_len rs i]; simp; omega
/-- Where the strips begin and end. -/
def cuts (rs : List R4) : List Int := dd ((sidesTo rs rs.length).mergeSort fun x y => decide (x ≤ y))
/-- How many positions are covered in strip i. -/
def stripN (rs : List R4) (i : Nat) : Int := tot (nf (alongL (rowsR (keepR (rowsI (cuts rs)) i rs))))
/-- The points in the strips ahead of i. -/
def covTo (rs : List R4) : Nat → Int
  | 0 => 0
  | i + 1 => covTo rs i + (if i = 0 then 0 else stripN rs i * ((cuts rs).getD i 0 - (cuts rs).getD (i - 1) 0))
def covN (rs : List R4) : Int := covTo rs (cuts rs).length
def prr (xs : List (List C)) : List R4 := xs.map fun r => ((r.getD 0 .nil).gi, (r.getD 1 .nil).gi, (r.getD 2 .nil).gi, (r.getD 3 .nil).gi)
theorem prr_rowsR (rs : List R4) : prr (rowsR rs) = rs := by
  simp only [prr, rowsR, List.map_map]
  exact (List.map_congr_left fun z _ => rfl).trans (List.map_id rs)
/-- The spans along the web of rectangles that have points. -/
def alongR (rs : List R4) : List (Int × Int) := (rs.filter fun r => !emp r.1 r.2.1 r.2.2.1 r.2.2.2).map fun r => (r.2.2.1, r.2.2.2)
theorem alongTo_rows (rs : List R4) : ∀ i, i ≤ rs.length → alongTo (rowsR rs) i = alongR (rs.take i)
  | 0, _ => rfl
  | i + 1, h => by
    have hlt : i < rs.length := h
    obtain ⟨q0, q1, q2, q3⟩ := rowsR_getD rs i
    have hg : rs.getD i (0, 0, 0, 0) = rs[i] := by simp [List.getD, hlt]
    rw [hg] at q0 q1 q2 q3
    rw [alongTo, alongTo_rows rs i (by omega), List.take_add_one, List.getElem?_eq_getElem hlt]
    unfold ptAt ce alongR
    rw [q0, q1, q2, q3, List.filter_append, List.map_append]
    cases he : emp (rs[i]).1 (rs[i]).2.1 (rs[i]).2.2.1 (rs[i]).2.2.2 <;> simp [he]
theorem alongL_rows (rs : List R4) : alongL (rowsR rs) = alongR rs := by rw [alongL, rowsR_len, alongTo_rows rs _ (Nat.le_refl _), List.take_length]
theorem alongR_ok {rs : List R4} (hr : ∀ r ∈ rs, okR r) : ∀ z ∈ alongR rs, 0 ≤ z.1 ∧ z.1 ≤ z.2 ∧ z.2 ≤ 17179869184 := by
  intro z hz
  obtain ⟨r, h1, rfl⟩ := List.mem_map.1 hz
  have := hr r (List.mem_filter.1 h1).1
  unfold okR at this
  simp only
  omega
theorem alongR_len (rs : List R4) : (alongR rs).length ≤ rs.length := by rw [alongR, List.length_map]; exact List.length_filter_le _ _
theorem keepR_ok {rs : List R4} {sd : List (List C)} {i : Int} (hr : ∀ r ∈ rs, okR r) : ∀ r ∈ keepR sd i rs, okR r := fun r h => hr r (List.mem_filter.1 h).1
theorem keepR_len (rs : List R4) (sd : List (List C)) (i : Int) : (keepR sd i rs).length ≤ rs.length := List.length_filter_le _ _
theorem sidesTo_mem {rs : List R4} (hr : ∀ r ∈ rs, okR r) : ∀ i, i ≤ rs.length → ∀ x ∈ sidesTo rs i, 0 ≤ x ∧ x ≤ 12000
  | 0, _, x, h => by cases h
  | i + 1, hi, x, h => by
    rcases List.mem_append.1 h with h | h
    · exact sidesTo_mem hr i (by omega) x h
    · have hlt : i < rs.length := hi
      have hg : rs.getD i r0 = rs[i] := by simp [List.getD, hlt]
      rw [hg] at h
      have := hr _ (List.getElem_mem hlt)
      unfold okR at this
      simp at h
      omega
theorem ddTo_mem (zs : List Int) : ∀ i, i ≤ zs.length → ∀ x ∈ ddTo zs i, x ∈ zs
  | 0, _, x, h => by cases h
  | i + 1, hi, x, h => by
    have hlt : i < zs.length := hi
    have hg : zs.getD i 0 = zs[i] := by simp [List.getD, hlt]
    unfold ddTo at h
    split at h
    · exact ddTo_mem zs i (by omega) x h
    · rcases List.mem_append.1 h with h | h
      · exact ddTo_mem zs i (by omega) x h
      · rw [hg] at h
        simp at h
        rw [h]; exact List.getElem_mem hlt
theorem cuts_ok {rs : List R4} (hr : ∀ r ∈ rs, okR r) : ∀ x ∈ cuts rs, 0 ≤ x ∧ x ≤ 12000 := fun x h =>
  sidesTo_mem hr rs.length (Nat.le_refl _) x ((List.mergeSort_perm _ _).mem_iff.1 (ddTo_mem _ _ (Nat.le_refl _) x h))
theorem cuts_getD {rs : List R4} (hr : ∀ r ∈ rs, okR r) (i : Nat) : 0 ≤ (cuts rs).getD i 0 ∧ (cuts rs).getD i 0 ≤ 12000 := by
  by_cases h : i < (cuts rs).length
  · have : (cuts rs).getD i 0 = (cuts rs)[i] := by simp [List.getD, h]
    rw [this]; exact cuts_ok hr _ (List.getElem_mem h)
  · have : (cuts rs).getD i 0 = 0 := by simp [List.getD, Nat.le_of_not_lt h]
    rw [this]; decide
theorem stripN_ok {rs : List R4} (hr : ∀ r ∈ rs, okR r) (i : Nat) : 0 ≤ stripN rs i ∧ stripN rs i ≤ 17179869184 := by
  unfold stripN
  rw [alongL_rows]
  have h := alongR_ok (keepR_ok (sd := rowsI (cuts rs)) (i := i) hr)
  generalize alongR (keepR (rowsI (cuts rs)) i rs) = zs at h
  obtain ⟨k, _⟩ := nf_ok zs
  exact ⟨tot_nonneg k, tot_le (n := 17179869184) k (nf_bound fun z hz => ⟨(h z hz).1, (h z hz).2.2⟩)⟩
theorem term_ok {s d : Int} (h1 : 0 ≤ s) (h2 : s ≤ 17179869184) (h3 : -12000 ≤ d) (h4 : d ≤ 12000) : -206158430208000 ≤ s * d ∧ s * d ≤ 206158430208000 := by
  have a := Int.mul_le_mul_of_nonneg_left h4 h1
  have b := Int.mul_le_mul_of_nonneg_left h3 h1
  omega
theorem covTo_ok {rs : List R4} (hr : ∀ r ∈ rs, okR r) : ∀ i : Nat, -(206158430208000 * (i : Int)) ≤ covTo rs i ∧ covTo rs i ≤ 206158430208000 * (i : Int)
  | 0 => by simp [covTo]
  | i + 1 => by
    have ih := covTo_ok hr i
    have hs := stripN_ok hr i
    have c1 := cuts_getD hr i
    have c2 := cuts_getD hr (i - 1)
    have := term_ok (d := (cuts rs).getD i 0 - (cuts rs).getD (i - 1) 0) hs.1 hs.2 (by omega) (by omega)
    rw [covTo]
    split <;> omega
theorem f42 {xs : List (List C)} (hl : xs.length ≤ 1000000) : PC4 68 [kS] [lC xs] := e42 hl
theorem t42 (xs : List (List C)) : tb4 68 [lC xs] = [.sl i2 (rowsP (alongL xs))] := rfl
theorem f54 {zs : List (Int × Int)} (hl : zs.length ≤ 1000000) : PC4 67 [kI, kI] [sC (rowsP zs)] := e54 hl
theorem t54 (zs : List (Int × Int)) : tb4 67 [sC (rowsP zs)] = [.int .i64 (if spE (rowsP zs) = 0 then tot (nf zs) else 0), .int .i64 (spE (rowsP zs))] := s54 zs
theorem x37 {rs : List R4} {xs : List (List C)} {v : Int} (hx : rowsR rs = xs) (hl : rs.length ≤ 64) (hr : ∀ r ∈ rs, okR r) (hv : covN rs = v) : WP4 rf52 [kI] [.int .i64 v] [lC xs] := by
  have b49 : hasBody Try.prog 62 = true := b62
  have b50 : hasBody Try.prog 63 = true := b63
  have b51 : hasBody Try.prog 64 = true := b64
  have b52 : hasBody Try.prog 65 = true := b65
  refine ⟨?_⟩
  generalize hE : stdE Try.prog tb4 = E
  generalize hP : Try.prog = P at b49 b50 b51 b52 ⊢
  have hxl : xs.length = rs.length := by rw [← hx, rowsR_len]
  cbv
  refine LoopW.inv (fun R R' s h k => RCode.wp_mono _ R R' s h k) (fun i : Nat => ⟨[lC xs, .u, iC 0, .ptr 0 0, .u, .u, .u, .u, .u, .u, .u, lC xs, iC (E.len xs), iC i, .u, .u, .u, .u, .u, .u, .u, .u, .u, .u, .u, .u, .u, .u, .u, .u, .u, .u, .u, .u, .u, .u, .u, .u, .u, .u, .u, .u, .u, .u, .u, .u, .u, .u, .u, .u, .u, .u, .u, .u, .u, .u, .u, .u, .u, .u, .u], [.box 76 [.gr 1], .arr 3 i1 (rowsI (sidesTo rs i))]⟩)
    (fun i => i ≤ rs.length) (fun i => rs.length - i) 0 ?_ ?_ ?_
  · exact Nat.zero_le _
  · refine GSt.trans (GSt.nilBox 0 0 3 i1 rfl rfl) (GSt.ren [0, 1] rfl rfl rfl (fun i hi => absurd hi (Nat.not_lt_zero i)) (Nat.zero_le _) ?_ ?_)
    · repeat' (first | exact trivial | exact Or.inl rfl | exact Or.inr rfl | refine And.intro ?_ ?_)
    · repeat' (first | exact trivial | exact Or.inr rfl | refine And.intro ?_ ?_)
  intro i hi
  obtain ⟨w, hw⟩ : ∃ w, rowsI (sidesTo rs i) = w := ⟨_, rfl⟩
  dsimp only
  rw [hw]
  cbv
  refine Br_iff.2 ⟨fun h3 => ?_, fun h3 => ?_⟩
  · subst hP; subst hE
    simp only [stdE, baseE, decide_eq_true_eq, ofNat_toNat] at h3 ⊢
    have hlt : i < rs.length := by rw [← hxl]; exact Int.ofNat_lt.1 h3
    have hwl : w.length = 2 * i := by rw [← hw, rowsI_len, sidesTo_len]
    refine ⟨Int.natCast_nonneg i, h3, ?_, i + 1, hlt, GSt.ren [0, 4] rfl rfl rfl (fun i hi => absurd hi (Nat.not_lt_zero i)) (Nat.zero_le _) ?_ ?_, by omega⟩
    · simp; omega
    · repeat' (first | exact trivial | exact Or.inl rfl | exact Or.inr rfl | refine And.intro ?_ ?_)
      all_goals (
        right
        simp only [A.ren, A.c.injEq, C.int.injEq, true_and]
        rw [wrap_in (by simp; omega) (by simp; omega)]
        simp)
    · refine ⟨Or.inr rfl, Or.inr ?_, trivial⟩
      obtain ⟨q0, q1, _⟩ := rowsR_getD rs i
      rw [hx] at q0 q1
      have e1 : rowsI (sidesTo rs (i + 1)) = w ++ [[.int .i64 (cellAt xs i 0).gi], [.int .i64 (cellAt xs i 1).gi]] := by
        rw [q0, q1, sidesTo, ← hw]
        simp [rowsI]
      rw [e1]
      rfl
  have hge : i = rs.length := by
    have : ¬ i < rs.length := fun h => by
      subst hP; subst hE
      simp only [stdE, baseE, decide_eq_false_iff_not] at h3
      exact h3 (Int.ofNat_lt.2 (by omega))
    omega
  subst hge
  have h49 := q49 3 (sidesTo rs rs.length) (by rw [sidesTo_len]; omega)
  rw [hP, hw] at h49
  refine HCall.mk b49 ((ACalls.frame h49 (H := _) (tgt := [1]) rfl (by simp) ?_).mono fun r H' hq => ?_)
  · intro i o ho
    cases i with
    | zero => cases ho; rfl
    | succ i => cases ho
  obtain ⟨r1, H1', ⟨rfl, rfl⟩, _, rfl, rfl⟩ := hq
  obtain ⟨srt, hsrt⟩ : ∃ srt, ((sidesTo rs rs.length).mergeSort fun x y => decide (x ≤ y)) = srt := ⟨_, rfl⟩
  have hsl : srt.length ≤ 128 := by rw [← hsrt, List.length_mergeSort, sidesTo_len]; omega
  rw [hsrt]
  obtain ⟨u, hu⟩ : ∃ u, rowsI srt = u := ⟨_, rfl⟩
  rw [hu]
  cbv
  have h50 := q50 (zs := srt) (by omega)
  rw [hP, hu] at h50
  refine HCall.mk b50 ((ACalls.frame h50 (H := _) (tgt := [1]) rfl (by simp) ?_).mono fun r H' hq => ?_)
  · intro i o ho
    cases i with
    | zero => cases ho; rfl
    | succ i => cases ho
  obtain ⟨r1, H1', ⟨ws, hws, rfl, rfl, hwt⟩, _, rfl, rfl⟩ := hq
  have hcuts : dd srt = cuts rs := by rw [cuts, hsrt]
  rw [hcuts] at hwt ⊢
  have hcl : (cuts rs).length ≤ 128 := by rw [← hcuts]; exact Nat.le_trans (ddTo_len _ _) hsl
  obtain ⟨cl, hcl2⟩ : ∃ cl : Int, ((cuts rs).length : Int) = cl := ⟨_, rfl⟩
  rw [hcl2]
  obtain ⟨w2, hw2⟩ : ∃ w2, rowsI ws = w2 := ⟨_, rfl⟩
  rw [hw2]
  cbv
  have hcx : ((cuts rs).length : Int) = cl := hcl2
  refine LoopW.inv (fun R R' s h k => RCode.wp_mono _ R R' s h k) (fun i : Nat => ⟨[lC xs, .u, iC 0, .ptr 0 0, .u, .u, iC (covTo rs i), .ptr 2 0, .u, .u, .u, .u, .u, .u, .u, .u, .u, .u, .u, .u, .u, .u, .u, .u, .u, .u, .u, .u, .u, .u, .u, .u, .u, .u, .u, .u, .u, .u, .u, .u, .u, .u, .u, .u, .u, .u, .u, .u, .u, .u, .u, .u, .u, .u, .u, .u, .u, .u, .u, .u, .u], [.box 76 [.own 1 0 cl], .arr 3 i1 w2, .box 3 [iC i]]⟩)
    (fun i => 1 ≤ i ∧ (i ≤ (cuts rs).length ∨ i = 1)) (fun i => (cuts rs).length - i) 1 ?_ ?_ ?_
  · exact ⟨Nat.le_refl _, .inr rfl⟩
  · refine GSt.ren [0, 1, 2] rfl rfl rfl (fun i hi => absurd hi (Nat.not_lt_zero i)) (Nat.zero_le _) ?_ ?_
    · repeat' (first | exact trivial | exact Or.inl rfl | exact Or.inr rfl | refine And.intro ?_ ?_)
    · repeat' (first | exact trivial | exact Or.inr rfl | refine And.intro ?_ ?_)
  rintro i ⟨hi1, hi2⟩
  obtain ⟨p, hp⟩ : ∃ p, covTo rs i = p := ⟨_, rfl⟩
  dsimp only
  rw [hp]
  cbv
  refine Br_iff.2 ⟨fun h3 => ?_, fun h3 => ?_⟩
  · have hlt : i < (cuts rs).length := by
      subst hP; subst hE
      simp only [stdE, baseE, decide_eq_true_eq] at h3
      rw [← hcx] at h3
      exact Int.ofNat_lt.1 h3
    have h52 := q52 (xs := xs) (by omega)
    rw [hP] at h52
    refine HCall.mk b52 ((ACalls.frame h52 (H := _) (tgt := []) rfl (by simp) ?_).mono fun r H' hq => ?_)
    · intro i o ho; cases ho
    obtain ⟨r1, H1', ⟨rfl, rfl⟩, _, rfl, rfl⟩ := hq
    cbv
    have hsd : List.drop (Int.toNat 0) (List.take (0 + cl).toNat w2) = rowsI (cuts rs) := by
      rw [← hcx, ← hw2, show (0 + ((cuts rs).length : Int)).toNat = (cuts rs).length by simp, ← hwt]
      simp [rowsI, List.map_take]
    have h51 := q51 (rs := rs) (i := (i : Int)) hsd (by omega) (by omega) (by rw [rowsI_len]; exact Int.ofNat_lt.2 hlt) (by rw [rowsI_len]; omega)
    rw [hP, hx] at h51
    obtain ⟨kp, hkp⟩ : ∃ kp, keepR (rowsI (cuts rs)) i rs = kp := ⟨_, rfl⟩
    rw [hkp] at h51
    obtain ⟨kl, hkl⟩ : ∃ kl : Int, (kp.length : Int) = kl := ⟨_, rfl⟩
    have h51' := h51.mono (Q' := fun r H' => ∃ w3 : List (List C), (∃ ws3 : List R4, rowsR ws3 = w3 ∧ ws3.take kp.length = kp) ∧ r = .own 0 0 kl ∧ H' = [.arr 36 i4 w3, .box 76 [.own 3 0 cl], .box 3 [iC i], .arr 3 i1 w2])
      (by rintro r H' ⟨ws3, h1, rfl, rfl, h2⟩; exact ⟨_, ⟨ws3, rfl, h2⟩, by rw [hkl], rfl⟩)
    refine HCall.mk b51 ((ACalls.frame h51' (H := _) (tgt := [3, 0, 2, 1]) rfl (by simp) ?_).mono fun r H' hq => ?_)
    · intro j o ho
      match j, ho with
      | 0, ho => cases ho; rfl
      | 1, ho => cases ho; rfl
      | 2, ho => cases ho; rfl
      | 3, ho => cases ho; rfl
    obtain ⟨r1, H1', ⟨w3, ⟨ws3, hw3, hwt3⟩, rfl, rfl⟩, _, rfl, rfl⟩ := hq
    cbv
    have hcut3 : List.drop (Int.toNat 0) (List.take (0 + kl).toNat w3) = rowsR kp := by
      rw [← hkl, ← hw3, show (0 + (kp.length : Int)).toNat = kp.length by simp]
      rw [show List.drop (Int.toNat 0) (List.take kp.length (rowsR ws3)) = rowsR (ws3.take kp.length) by simp [rowsR, List.map_take], hwt3]
    have hkpl : kp.length ≤ 64 := by rw [← hkp]; exact Nat.le_trans (keepR_len _ _ _) hl
    have hkpo : ∀ r ∈ kp, okR r := by rw [← hkp]; exact keepR_ok hr
    have hst : stripN rs i = tot (nf (alongL (rowsR kp))) := by rw [← hkp]; rfl
    have hal := alongL_rows kp
    have hzo := alongR_ok hkpo
    have hzl := alongR_len kp
    rw [← hal] at hzo hzl
    have hsp := spE_good (by omega) hzo
    have hst2 := stripN_ok hr i
    have hc1 := cuts_getD hr i
    have hc2 := cuts_getD hr (i - 1)
    have hcv := covTo_ok hr i
    have hcv1 : covTo rs (i + 1) = p + stripN rs i * ((cuts rs).getD i 0 - (cuts rs).getD (i - 1) 0) := by rw [covTo, hp, if_neg (by omega)]
    rw [hp] at hcv
    have hterm := term_ok (d := (cuts rs).getD i 0 - (cuts rs).getD (i - 1) 0) hst2.1 hst2.2 (by omega) (by omega)
    have hwi : ∀ m, m < (cuts rs).length → (cellAt w2 m 0).gi = (cuts rs).getD m 0 := fun m hm => by
      rw [← hw2, rowsI_getD, ← hwt]
      simp [List.getD, hm]
    subst hP; subst hE
    simp only [stdE, baseE, hcut3, t42, List.getD_cons_zero, gl_sl, decide_eq_true_eq]
    have hw1 : IntKind.i64.wrap (Int.ofNat i - 1) = ((i - 1 : Nat) : Int) := by rw [wrap_in (by simp; omega) (by simp; omega)]; simp; omega
    rw [hw1]
    refine ⟨f42 (by rw [rowsR_len]; omega), f54 (by omega), by simp, ?_, by omega, ?_, i + 1, ⟨by omega, .inl hlt⟩, GSt.ren [0, 1, 4] rfl rfl rfl (fun i hi => absurd hi (Nat.not_lt_zero i)) (Nat.zero_le _) ?_ ?_, by omega⟩
    · rw [← hcx]; exact Int.ofNat_lt.2 hlt
    · rw [← hcx]; exact Int.ofNat_lt.2 (by omega)
    · repeat' (first | exact trivial | exact Or.inl rfl | exact Or.inr rfl | refine And.intro ?_ ?_)
      all_goals (
        right
        simp only [A.ren, A.c.injEq, C.int.injEq, true_and, t54, List.getD_cons_zero, gi_int, if_pos hsp, ← hst])
      rw [show (0 + Int.ofNat i).toNat = i by simp, show (0 + ((i - 1 : Nat) : Int)).toNat = i - 1 by simp, hwi i hlt, hwi (i - 1) (by omega), hcv1]
      rw [wrap_in (n := (cuts rs).getD i 0 - (cuts rs).getD (i - 1) 0) (by omega) (by omega), wrap_in (n := stripN rs i * ((cuts rs).getD i 0 - (cuts rs).getD (i - 1) 0)) (by omega) (by omega), wrap_in (by omega) (by omega)]
    · refine ⟨Or.inr rfl, Or.inr rfl, Or.inr ?_, trivial⟩
      have hw4 : IntKind.i64.wrap (Int.ofNat i + 1) = ((i + 1 : Nat) : Int) := by rw [wrap_in (by simp; omega) (by simp; omega)]; simp
      show some (O.box 3 [iC (IntKind.i64.wrap (Int.ofNat i + 1))]) = _
      rw [hw4]
      rfl
  · have hge : (cuts rs).length ≤ i := by
      subst hP; subst hE
      simp only [stdE, baseE, decide_eq_false_iff_not] at h3
      rw [← hcx] at h3
      exact Nat.le_of_not_lt fun h => h3 (Int.ofNat_lt.2 h)
    have hc : covN rs = p := by
      rw [covN, ← hp]
      rcases hi2 with h | h
      · rw [show (cuts rs).length = i by omega]
      · subst h
        have : (cuts rs).length = 0 ∨ (cuts rs).length = 1 := by omega
        rcases this with h | h <;> rw [h]
        rfl
    rw [← hv, hc]
    exact ⟨rfl, trivial⟩
--MORE
end Go.Proofs.Ytkdapoipnkpbeaa
