/- Rectangles: what Cover, Clip and Rest hand back, in the program and in the reference. No conditions. -/
import Derived.Test.YtjckgkhojjnkdaaGA
import Derived.Test.YtjckgkhojjnkdaaPoints
import Derived.Test.YtjckgkhojjnkdaaCovers
set_option linter.unusedVariables false
set_option linter.unusedSimpArgs false
namespace Go.Proofs.Ytjckgkhojjnkdaa.V
open Go Go.Eng Go.Span
set_option maxRecDepth 1000000
set_option maxHeartbeats 1000000
abbrev rR (r : R4) : A := rc r.1 r.2.1 r.2.2.1 r.2.2.2
def chkR (r : R4) : Int := chk r.1 r.2.1 r.2.2.1 r.2.2.2
/-- The rows are rectangles. -/
theorem rows_R {xs : List (List C)} (h : ∀ r ∈ xs, FitR i4 r) : ∃ rs : List R4, xs = rowsR rs := by
  induction xs with
  | nil => exact ⟨[], rfl⟩
  | cons x xs ih =>
    obtain ⟨rs, rfl⟩ := ih fun r hr => h r (List.mem_cons_of_mem _ hr)
    match x, h x (by simp) with
    | [.int k1 l, .int k2 r, .int k3 a, .int k4 b], h =>
      simp only [FitR, FitC] at h
      obtain ⟨⟨rfl, _⟩, ⟨rfl, _⟩, ⟨rfl, _⟩, ⟨rfl, _⟩, _⟩ := h
      exact ⟨(l, r, a, b) :: rs, rfl⟩
theorem rowsR_c0 (rs : List R4) (i : Nat) : (cellAt (rowsR rs) i 0).gi = (rs.getD i (0, 0, 0, 0)).1 := (rowsR_getD rs i).1
theorem rowsR_c1 (rs : List R4) (i : Nat) : (cellAt (rowsR rs) i 1).gi = (rs.getD i (0, 0, 0, 0)).2.1 := (rowsR_getD rs i).2.1
theorem rowsR_c2 (rs : List R4) (i : Nat) : (cellAt (rowsR rs) i 2).gi = (rs.getD i (0, 0, 0, 0)).2.2.1 := (rowsR_getD rs i).2.2.1
theorem rowsR_c3 (rs : List R4) (i : Nat) : (cellAt (rowsR rs) i 3).gi = (rs.getD i (0, 0, 0, 0)).2.2.2 := (rowsR_getD rs i).2.2.2
theorem rowsR_append (a b : List R4) : rowsR (a ++ b) = rowsR a ++ rowsR b := by simp [rowsR]
/-- What Clip makes of a list. -/
theorem clipTo_R (rs : List R4) (q : R4) : ∀ i, i ≤ rs.length → clipTo (rowsR rs) q.1 q.2.1 q.2.2.1 q.2.2.2 i = rowsR (clipR (rs.take i) q)
  | 0, _ => rfl
  | i + 1, h => by
    have hlt : i < rs.length := h
    have hg : rs.getD i (0, 0, 0, 0) = rs[i] := by simp [List.getD, hlt]
    rw [clipTo, clipTo_R rs q i (by omega), List.take_add_one, List.getElem?_eq_getElem hlt]
    unfold clipR isAt comAt ce
    rw [rowsR_c0, rowsR_c1, rowsR_c2, rowsR_c3, hg, Option.toList_some, List.filter_append, List.map_append, rowsR_append]
    congr 1
    have hb : comB rs[i] q = comI (rs[i]).1 (rs[i]).2.1 (rs[i]).2.2.1 (rs[i]).2.2.2 q.1 q.2.1 q.2.2.1 q.2.2.2 := rfl
    rw [← hb]
    cases hc : comB rs[i] q with
    | false => simp [hc, rowsR]
    | true =>
      have : comE (rs[i]).1 (rs[i]).2.1 (rs[i]).2.2.1 (rs[i]).2.2.2 q.1 q.2.1 q.2.2.1 q.2.2.2 = false := by
        rw [hb, com_is] at hc; simpa using hc
      simp [hc, rowsR, this, zs, comR]
def cliE (rs : List R4) (q : R4) : Int := clipE (rowsR rs) q.1 q.2.1 q.2.2.1 q.2.2.2
theorem clipL_R (rs : List R4) (q : R4) : clipL (rowsR rs) q.1 q.2.1 q.2.2.1 q.2.2.2 = rowsR (if cliE rs q = 0 then clipR rs q else []) := by
  unfold clipL cliE
  split
  · rw [rowsR_len, clipTo_R rs q _ (Nat.le_refl _), List.take_length]
  · rfl
theorem cliE_ok {rs : List R4} {q : R4} (h : cliE rs q = 0) : okR q ∧ rs.length ≤ 64 ∧ ∀ r ∈ rs, okR r := by
  unfold cliE clipE at h
  split at h
  · rename_i hq
    obtain ⟨h1, h2⟩ := allE_ok h
    exact ⟨chk_okR hq, h1, h2⟩
  · rename_i hq; exact absurd h hq
theorem clipR_ok {rs : List R4} {q : R4} (hr : ∀ r ∈ rs, okR r) (hq : okR q) : ∀ r ∈ clipR rs q, okR r := fun r h => by
  obtain ⟨a, ha, rfl⟩ := List.mem_map.1 h
  obtain ⟨ha, hc⟩ := List.mem_filter.1 ha
  exact okR_com (hr a ha) hq hc
theorem clipR_len (rs : List R4) (q : R4) : (clipR rs q).length ≤ rs.length := by rw [clipR, List.length_map]; exact List.length_filter_le _ _
/-- The area. -/
def areaR (r : R4) : Int := (r.2.1 - r.1) * (r.2.2.2 - r.2.2.1)
theorem areaR_ok {r : R4} (h : okR r) : 0 ≤ areaR r ∧ areaR r ≤ 12000 * 17179869184 := by
  have := pts_one h
  unfold areaR
  rw [← this]
  exact ⟨pts_nonneg _, pts_le _⟩
theorem arw_ok {r : R4} (h : okR r) : arw r.1 r.2.1 r.2.2.1 r.2.2.2 = areaR r := by
  have k := areaR_ok h
  unfold okR at h
  unfold arw areaR at *
  rw [wrap_in (n := r.2.1 - r.1) (by omega) (by omega), wrap_in (n := r.2.2.2 - r.2.2.1) (by omega) (by omega), wrap_in (by omega) (by omega)]
theorem ok_chk {r : R4} (h : okR r) : chk r.1 r.2.1 r.2.2.1 r.2.2.2 = 0 := by
  unfold okR at h
  unfold chk
  rw [if_neg (by omega)]
/-! ### Contracts that lie -/
def S11 : List A → List C := tb6 11
def S12 : List A → List C := tb6 12
def S16 : List A → List C := tb6 16
def S17 : List A → List C := tb6 17
def S24 : List A → List C := tb6 24
def S26 : List A → List C := tb6 26
def S27 : List A → List C := tb6 27
def S28 : List A → List C := tb6 28
def S32 : List A → List C := tb6 32
def S37 : List A → List C := tb6 37
def S38 : List A → List C := tb6 38
def S40 : List A → List C := tb6 40
theorem p12 {rs : List R4} (hl : rs.length ≤ 1000000) : PCg Try.prog 12 S12 [kI, kI] [lC (rowsR rs)] := k12 hl
theorem p16 {rs : List R4} {l r a b : Int} (hl : rs.length ≤ 1000000) : PCg Try.prog 16 S16 [kL, kI] [lC (rowsR rs), rc l r a b] := d16 (xs := rowsR rs) (by rw [rowsR_len]; omega) l r a b
theorem p17 {rs : List R4} {l r a b : Int} (hl : rs.length ≤ 1000000) : PCg Try.prog 17 S17 [kL, kI] [lC (rowsR rs), rc l r a b] := d17 (xs := rowsR rs) (by rw [rowsR_len]; omega) l r a b
theorem p24 {rs : List R4} (hl : rs.length ≤ 1000000) : PCg Try.prog 24 S24 [kB] [lC (rowsR rs)] := k24 (by rw [rowsR_len]; omega)
theorem p26 (l r a b : Int) : PCg Try.prog 26 S26 [kI, kI] [rc l r a b] := c26 l r a b
theorem p27 (l r a b : Int) : PCg Try.prog 27 S27 [kI, kI] [rc l r a b] := c27 l r a b
theorem p28 (l r a b l' r' a' b' : Int) : PCg Try.prog 28 S28 [kR, kB] [rc l r a b, rc l' r' a' b'] := c28 l r a b l' r' a' b'
theorem p32 (l r a b l' r' a' b' : Int) : PCg Try.prog 32 S32 [kB] [rc l r a b, rc l' r' a' b'] := c32 l r a b l' r' a' b'
theorem p37 {rs : List R4} (hl : rs.length ≤ 64) (hr : ∀ r ∈ rs, okR r) : PCg Try.prog 37 S37 [kI] [lC (rowsR rs)] := k37 hl hr
theorem p38 {rs : List R4} (hl : rs.length ≤ 1000000) : PCg Try.prog 38 S38 [kI] [lC (rowsR rs)] := d38 (by rw [rowsR_len]; omega)
theorem p40 (l r a b : Int) : PCg Try.prog 40 S40 [kI] [rc l r a b] := c40 l r a b
theorem p11 : PCg Try.prog 11 S11 [kB] [] := awake.one rfl
/-- pts, never unfolded. -/
noncomputable def ptc (rs : List R4) : Int := Classical.choose (⟨pts rs, rfl⟩ : ∃ n, n = pts rs)
theorem ptc_eq (rs : List R4) : ptc rs = pts rs := Classical.choose_spec (⟨pts rs, rfl⟩ : ∃ n, n = pts rs)
noncomputable def covR (rs : List R4) : Int := if allE (rowsR rs) = 0 then ptc rs else 0
theorem q12 (rs : List R4) : S12 [lC (rowsR rs)] = [.int .i64 (covR rs), .int .i64 (allE (rowsR rs))] := by
  refine (v12 rs).trans ?_
  unfold covR
  split
  · rename_i h; rw [covN_pts (allE_ok h).2, ptc_eq]
  · rfl
theorem q16 (rs : List R4) (q : R4) : S16 [lC (rowsR rs), rR q] = [.sl i4 (rowsR (if cliE rs q = 0 then clipR rs q else [])), .int .i64 (cliE rs q)] := by
  rw [← clipL_R]; rfl
theorem q17 (rs : List R4) (q : R4) : S17 [lC (rowsR rs), rR q] = [.sl i4 (rowsR (if cliE rs q = 0 then clipR rs q else [])), .int .i64 (cliE rs q)] := by
  rw [← clipL_R]; rfl
theorem q26 (q : R4) : S26 [rR q] = [.int .i64 (sel (chkR q == 0) (arw q.1 q.2.1 q.2.2.1 q.2.2.2) 0), .int .i64 (chkR q)] := rfl
theorem q27 (q : R4) : S27 [rR q] = [.int .i64 (sel (chkR q == 0) (arw q.1 q.2.1 q.2.2.1 q.2.2.2) 0), .int .i64 (chkR q)] := rfl
theorem q37 (rs : List R4) : S37 [lC (rowsR rs)] = [.int .i64 (covN rs)] := v37 rs
theorem q38 (rs : List R4) : S38 [lC (rowsR rs)] = [.int .i64 (allE (rowsR rs))] := rfl
theorem q40 (l r a b : Int) : S40 [rc l r a b] = [.int .i64 (arw l r a b)] := rfl
theorem q11 : S11 [] = [.bool true] := rfl
/-! ### The reference's count -/
theorem foldl_take {α β : Type} (f : β → α → β) (b : β) (l : List α) (d : α) {i : Nat} (h : i < l.length) : (l.take (i + 1)).foldl f b = f ((l.take i).foldl f b) (l.getD i d) := by
  rw [List.take_add_one, List.foldl_append]
  simp [List.getD, h]
/-- The least end above x, so far n, of one rectangle more. -/
def nx (al : Bool) (x n : Int) (r : R4) : Int :=
  if al then (if x < r.2.2.2 then mn (if x < r.2.2.1 then mn n r.2.2.1 else n) r.2.2.2 else if x < r.2.2.1 then mn n r.2.2.1 else n)
  else (if x < r.2.1 then mn (if x < r.1 then mn n r.1 else n) r.2.1 else if x < r.1 then mn n r.1 else n)
def nxt (al : Bool) (rs : List R4) (x : Int) : Int := rs.foldl (nx al x) 17179869184
theorem v55 {tbl : FuncId → List A → List C} {P : Program} {rs : List R4} {al : Bool} {x : Int} (hl : rs.length ≤ 1000000) : vc55 (stdE P tbl) (rowsR rs) al x fun c => c = [.int .i64 (nxt al rs x)] := by
  unfold vc55
  simp only [stdE, baseE, Br_iff, decide_eq_true_eq, decide_eq_false_iff_not, rowsR_len]
  refine LoopP2.run (fun n => (rs.take n).foldl (nx al x) 17179869184) (fun n : Nat => (n : Int)) (fun n => n ≤ rs.length) (fun n => rs.length - n) 0 (Nat.zero_le _) rfl rfl ?_
  intro n hn K hK
  simp only [toNat_cast, rowsR_c0, rowsR_c1, rowsR_c2, rowsR_c3]
  refine ⟨fun h => ?_, fun h => ?_⟩
  · have hlt : n < rs.length := Int.ofNat_lt.1 h
    have hw := wrap_up (n := n) rfl (by omega)
    have hs := foldl_take (nx al x) 17179869184 rs (0, 0, 0, 0) hlt
    have key : ∀ y, y = nx al x ((rs.take n).foldl (nx al x) 17179869184) (rs.getD n (0, 0, 0, 0)) → K y (IntKind.i64.wrap ((n : Int) + 1)) := fun y hy => hK _ _ (n + 1) hlt (by omega) (by rw [hy, hs]) hw
    refine ⟨Int.natCast_nonneg n, fun ha => ⟨fun h1 => ⟨fun h2 => ?_, fun h2 => ?_⟩, fun h1 => ⟨fun h2 => ?_, fun h2 => ?_⟩⟩, fun ha => ⟨fun h1 => ⟨fun h2 => ?_, fun h2 => ?_⟩, fun h1 => ⟨fun h2 => ?_, fun h2 => ?_⟩⟩⟩
    all_goals (refine key _ ?_; simp only [nx, ha, h1, h2, if_true, if_false, mn]; try rfl)
  · have : n = rs.length := by omega
    subst this
    rw [List.take_length]; rfl
def inB1 (x y : Int) (r : R4) : Bool := decide (r.1 ≤ x ∧ x < r.2.1 ∧ r.2.2.1 ≤ y ∧ y < r.2.2.2)
def inB (rs : List R4) (x y : Int) : Bool := rs.any (inB1 x y)
theorem inB_iff (rs : List R4) (x y : Int) : inB rs x y = true ↔ inR rs x y := by
  unfold inB inB1 inR
  simp
theorem any_take {α : Type} (f : α → Bool) (l : List α) (d : α) {i : Nat} (h : i < l.length) : (l.take (i + 1)).any f = ((l.take i).any f || f (l.getD i d)) := by
  rw [List.take_add_one, List.any_append]
  simp [List.getD, h]
theorem v56 {tbl : FuncId → List A → List C} {P : Program} {rs : List R4} {x y : Int} (hl : rs.length ≤ 1000000) : vc56 (stdE P tbl) (rowsR rs) x y fun c => c = [.bool (inB rs x y)] := by
  unfold vc56
  simp only [stdE, baseE, Br_iff, decide_eq_true_eq, decide_eq_false_iff_not, rowsR_len]
  refine LoopP1.run (fun n : Nat => (n : Int)) (fun n => n ≤ rs.length ∧ (rs.take n).any (inB1 x y) = false) (fun n => rs.length - n) 0 ⟨Nat.zero_le _, rfl⟩ rfl ?_
  intro n ⟨hn, ha⟩ K hK
  simp only [toNat_cast, rowsR_c0, rowsR_c1, rowsR_c2, rowsR_c3]
  refine ⟨fun h => ?_, fun h => ?_⟩
  · have hlt : n < rs.length := Int.ofNat_lt.1 h
    have hw := wrap_up (n := n) rfl (by omega)
    have hs := any_take (inB1 x y) rs (0, 0, 0, 0) hlt
    rw [ha, Bool.false_or] at hs
    refine ⟨Int.natCast_nonneg n, fun h1 => ?_, fun h1 => hK _ (n + 1) ⟨hlt, ?_⟩ (by omega) hw⟩
    · have : inB1 x y (rs.getD n (0, 0, 0, 0)) = true := by simpa [inB1, and_assoc] using h1
      rw [this] at hs
      have : inB rs x y = true := by
        rw [inB, ← List.take_append_drop (n + 1) rs, List.any_append, hs]; rfl
      rw [this]
    · rw [hs]
      simpa [inB1, and_assoc] using h1
  · have : n = rs.length := by omega
    subst this
    rw [List.take_length] at ha
    rw [inB, ha]
/-- How many points of line y are in them. -/
def linN (rs : List R4) (y : Int) : Int := sm wd fun x => Go.Span.one (inR rs x y)
theorem sm_swap (m n : Nat) (f : Nat → Nat → Int) : sm m (fun x => sm n fun y => f x y) = sm n fun y => sm m fun x => f x y := by
  induction m with
  | zero => simp only [sm]; rw [sm_zero]
  | succ m ih => simp only [sm]; rw [ih, ← sm_add]
theorem pts_lin (rs : List R4) : pts rs = sm ln fun y => linN rs y := sm_swap _ _ _
theorem mn_le (a b : Int) : mn a b ≤ a ∧ mn a b ≤ b ∧ (mn a b = a ∨ mn a b = b) := by unfold mn; split <;> omega
theorem nx_ok (al : Bool) (x n : Int) (r : R4) (hx : x < n) : x < nx al x n r ∧ nx al x n r ≤ n ∧ (x < (if al then r.2.2.1 else r.1) → nx al x n r ≤ if al then r.2.2.1 else r.1) ∧ (x < (if al then r.2.2.2 else r.2.1) → nx al x n r ≤ if al then r.2.2.2 else r.2.1) := by
  unfold nx
  cases al <;> simp only [if_true, if_false, Bool.false_eq_true]
  · have a1 := mn_le n r.1; have a2 := mn_le n r.2.1; have a3 := mn_le (mn n r.1) r.2.1
    repeat' split
    all_goals omega
  · have a1 := mn_le n r.2.2.1; have a2 := mn_le n r.2.2.2; have a3 := mn_le (mn n r.2.2.1) r.2.2.2
    repeat' split
    all_goals omega
theorem foldnx_ok (al : Bool) (x : Int) : ∀ (rs : List R4) (n : Int), x < n → x < rs.foldl (nx al x) n ∧ rs.foldl (nx al x) n ≤ n ∧ ∀ r ∈ rs, (x < (if al then r.2.2.1 else r.1) → rs.foldl (nx al x) n ≤ if al then r.2.2.1 else r.1) ∧ (x < (if al then r.2.2.2 else r.2.1) → rs.foldl (nx al x) n ≤ if al then r.2.2.2 else r.2.1)
  | [], n, h => ⟨h, Int.le_refl _, fun r hr => by cases hr⟩
  | r :: rs, n, h => by
    obtain ⟨a, b, c, d⟩ := nx_ok al x n r h
    obtain ⟨e, f, g⟩ := foldnx_ok al x rs (nx al x n r) a
    refine ⟨e, Int.le_trans f b, fun q hq => ?_⟩
    rcases List.mem_cons.1 hq with rfl | hq
    · exact ⟨fun k => Int.le_trans f (c k), fun k => Int.le_trans f (d k)⟩
    · exact g q hq
theorem nxt_ok (al : Bool) (rs : List R4) {x : Int} (h : x < 17179869184) : x < nxt al rs x ∧ nxt al rs x ≤ 17179869184 ∧ ∀ r ∈ rs, (x < (if al then r.2.2.1 else r.1) → nxt al rs x ≤ if al then r.2.2.1 else r.1) ∧ (x < (if al then r.2.2.2 else r.2.1) → nxt al rs x ≤ if al then r.2.2.2 else r.2.1) :=
  foldnx_ok al x rs _ h
theorem inR_right {rs : List R4} {x x' y : Int} (h : x < 17179869184) (h1 : x ≤ x') (h2 : x' < nxt false rs x) : inR rs x' y ↔ inR rs x y := by
  obtain ⟨a, b, c⟩ := nxt_ok false rs h
  simp only [Bool.false_eq_true, if_false] at c
  constructor
  · rintro ⟨r, hr, k⟩; have := c r hr; exact ⟨r, hr, by omega, by omega, k.2.2⟩
  · rintro ⟨r, hr, k⟩; have := c r hr; exact ⟨r, hr, by omega, by omega, k.2.2⟩
theorem inR_up {rs : List R4} {x y y' : Int} (h : y < 17179869184) (h1 : y ≤ y') (h2 : y' < nxt true rs y) : inR rs x y' ↔ inR rs x y := by
  obtain ⟨a, b, c⟩ := nxt_ok true rs h
  simp only [if_true] at c
  constructor
  · rintro ⟨r, hr, k⟩; have := c r hr; exact ⟨r, hr, k.1, k.2.1, by omega, by omega⟩
  · rintro ⟨r, hr, k⟩; have := c r hr; exact ⟨r, hr, k.1, k.2.1, by omega, by omega⟩
theorem sm_le_n {n : Nat} {f : Nat → Int} {c : Int} (h : ∀ k, k < n → 0 ≤ f k ∧ f k ≤ c) : 0 ≤ sm n f ∧ sm n f ≤ c * n := by
  induction n with
  | zero => simp [sm]
  | succ n ih =>
    have := ih fun k hk => h k (by omega)
    have := h n (by omega)
    rw [sm, Int.natCast_succ, Int.mul_add]
    omega
theorem linN_ok (rs : List R4) (y : Int) : 0 ≤ linN rs y ∧ linN rs y ≤ 12000 := sm_one_le wd _
theorem v39 {P : Program} {tbl : FuncId → List A → List C} {rs : List R4} (h55 : ∀ al x, tbl 55 [.c (.sl i4 (rowsR rs)), .c (.bool al), .c (.int .i64 x)] = [.int .i64 (nxt al rs x)]) (p55 : ∀ al x, PureC P 55 [(false, [.int .i64])] [.c (.sl i4 (rowsR rs)), .c (.bool al), .c (.int .i64 x)] fun i => (tbl 55 [.c (.sl i4 (rowsR rs)), .c (.bool al), .c (.int .i64 x)]).getD i .nil)
    (h56 : ∀ x y, tbl 56 [.c (.sl i4 (rowsR rs)), .c (.int .i64 x), .c (.int .i64 y)] = [.bool (inB rs x y)]) (p56 : ∀ x y, PureC P 56 [(false, [.bool])] [.c (.sl i4 (rowsR rs)), .c (.int .i64 x), .c (.int .i64 y)] fun i => (tbl 56 [.c (.sl i4 (rowsR rs)), .c (.int .i64 x), .c (.int .i64 y)]).getD i .nil) :
    vc39 (stdE P tbl) (rowsR rs) fun c => c = [.int .i64 (ptc rs)] := by
  unfold vc39
  simp only [stdE, baseE, Br_iff, decide_eq_true_eq, decide_eq_false_iff_not, forall_eq, p55, p56, true_and]
  simp only [h55, h56, List.getD_cons_zero, gi_int, gb_bool]
  refine LoopP2.run (fun y : Nat => sm y fun k => linN rs k) (fun y : Nat => (y : Int)) (fun y => y ≤ ln) (fun y => ln - y) 0 (Nat.zero_le _) rfl rfl ?_
  intro y hy K hK
  refine ⟨fun h => ?_, fun h => ?_⟩
  · obtain ⟨u1, u2, _⟩ := nxt_ok true rs h
    refine LoopP2.run (fun x : Nat => sm x fun k => Go.Span.one (inR rs k y)) (fun x : Nat => (x : Int)) (fun x => x ≤ wd) (fun x => wd - x) 0 (Nat.zero_le _) rfl rfl ?_
    intro x hx K2 hK2
    have hc := sm_one_le x fun k => inR rs k y
    have hx2 : x ≤ 12000 := hx
    refine ⟨fun h2 => ?_, fun h2 => ?_⟩
    · obtain ⟨r1, r2, _⟩ := nxt_ok false rs (x := x) (by omega)
      have hm := mn_le (nxt false rs x) 12000
      change mn (nxt false rs x) 12000 ≤ _ ∧ _ at hm
      obtain ⟨x', hx'⟩ : ∃ x' : Nat, mn (nxt false rs x) 12000 = x' := ⟨(mn (nxt false rs x) 12000).toNat, by omega⟩
      have e : (if 12000 < nxt false rs x then (12000 : Int) else nxt false rs x) = x' := hx'
      rw [hx'] at hm
      have hsp : sm x' (fun k => Go.Span.one (inR rs k y)) = sm x (fun k => Go.Span.one (inR rs k y)) + Go.Span.one (inR rs x y) * ((x' : Int) - x) := by
        refine sm_split (by omega) fun k k1 k2 => ?_
        have := inR_right (rs := rs) (x := x) (x' := k) (y := y) (by omega) (by omega) (by omega)
        unfold Go.Span.one
        by_cases q : inR rs x y
        · rw [if_pos q, if_pos (this.2 q)]
        · rw [if_neg q, if_neg fun w => q (this.1 w)]
      rw [e]
      refine ⟨fun h3 => ?_, fun h3 => ?_⟩
      · rw [inB_iff] at h3
        refine hK2 _ _ x' (by unfold wd; omega) (by unfold wd; omega) ?_ rfl
        rw [wrap_in (n := _ + (x' : Int)) (by omega) (by omega), wrap_in (by omega) (by omega), hsp]
        unfold Go.Span.one
        rw [if_pos h3]; omega
      · refine hK2 _ _ x' (by unfold wd; omega) (by unfold wd; omega) ?_ rfl
        have : ¬ inR rs x y := fun q => by rw [(inB_iff rs x y).2 q] at h3; cases h3
        rw [hsp]
        unfold Go.Span.one
        rw [if_neg this]; omega
    · have hxe : x = wd := by unfold wd at *; omega
      subst hxe
      obtain ⟨y', hy'⟩ : ∃ y' : Nat, nxt true rs y = y' := ⟨(nxt true rs y).toNat, by omega⟩
      rw [hy'] at u1 u2 ⊢
      have hsp : sm y' (fun k => linN rs k) = sm y (fun k => linN rs k) + linN rs y * ((y' : Int) - y) := by
        refine sm_split (by omega) fun k k1 k2 => ?_
        refine sm_congr fun x _ => ?_
        have := inR_up (rs := rs) (x := x) (y := y) (y' := k) h (by omega) (by omega)
        unfold Go.Span.one
        by_cases q : inR rs x y
        · rw [if_pos q, if_pos (this.2 q)]
        · rw [if_neg q, if_neg fun w => q (this.1 w)]
      have b1 := sm_le_n (n := y) (f := fun k => linN rs k) (c := 12000) fun k _ => linN_ok rs k
      have b2 := sm_le_n (n := y') (f := fun k => linN rs k) (c := 12000) fun k _ => linN_ok rs k
      have l1 := linN_ok rs y
      refine hK _ _ y' (by unfold ln; omega) (by unfold ln; omega) ?_ rfl
      change IntKind.i64.wrap (_ + IntKind.i64.wrap (linN rs y * _)) = _
      rw [hsp] at b2 ⊢
      rw [wrap_in (n := (y' : Int) - y) (by omega) (by omega), wrap_in (n := linN rs y * _) (by omega) (by omega), wrap_in (by omega) (by omega)]
  · have : y = ln := by unfold ln at *; omega
    subst this
    rw [ptc_eq, pts_lin]
def S55 (ds : List A) : List C := match ds with
  | [.c (.sl _ xs), .c (.bool al), .c (.int _ x)] => [.int .i64 (nxt al (prr xs) x)]
  | _ => []
def S56 (ds : List A) : List C := match ds with
  | [.c (.sl _ xs), .c (.int _ x), .c (.int _ y)] => [.bool (inB (prr xs) x y)]
  | _ => []
noncomputable def S39 (ds : List A) : List C := match ds with
  | [.c (.sl _ xs)] => [.int .i64 (ptc (prr xs))]
  | _ => []
theorem q55 (rs : List R4) (al : Bool) (x : Int) : S55 [lC (rowsR rs), .c (.bool al), iC x] = [.int .i64 (nxt al rs x)] := by
  show [C.int .i64 (nxt al (prr (rowsR rs)) x)] = _; rw [prr_rowsR]
theorem q56 (rs : List R4) (x y : Int) : S56 [lC (rowsR rs), iC x, iC y] = [.bool (inB rs x y)] := by
  show [C.bool (inB (prr (rowsR rs)) x y)] = _; rw [prr_rowsR]
theorem q39 (rs : List R4) : S39 [lC (rowsR rs)] = [.int .i64 (ptc rs)] := by
  show [C.int .i64 (ptc (prr (rowsR rs)))] = _; rw [prr_rowsR]
def tbl55 : FuncId → List A → List C := fun f ds => match f with
  | _ => []
theorem pc55  {x1 : List (List C)} {x2 : Bool} {x3 : Int} {row : List C} (hS : S55 [.c (.sl [.int .i64, .int .i64, .int .i64, .int .i64] x1), .c (.bool x2), .c (.int .i64 x3)] = row) (h : vc55 (stdE Try.prog tbl55) x1 x2 x3 fun c => c = row) : PCg Try.prog 55 S55 [(false, [.int .i64])] [.c (.sl [.int .i64, .int .i64, .int .i64, .int .i64] x1), .c (.bool x2), .c (.int .i64 x3)] := PureC_vc mo h55 (by kernel_rfl) hS (w55  h)
def tbl56 : FuncId → List A → List C := fun f ds => match f with
  | _ => []
theorem pc56  {x1 : List (List C)} {x2 : Int} {x3 : Int} {row : List C} (hS : S56 [.c (.sl [.int .i64, .int .i64, .int .i64, .int .i64] x1), .c (.int .i64 x2), .c (.int .i64 x3)] = row) (h : vc56 (stdE Try.prog tbl56) x1 x2 x3 fun c => c = row) : PCg Try.prog 56 S56 [(false, [.bool])] [.c (.sl [.int .i64, .int .i64, .int .i64, .int .i64] x1), .c (.int .i64 x2), .c (.int .i64 x3)] := PureC_vc mo h56 (by kernel_rfl) hS (w56  h)
def tbl39 : FuncId → List A → List C := fun f ds => match f with
  | 55 => S55 ds
  | 56 => S56 ds
  | _ => []
theorem pc39  {x1 : List (List C)} {row : List C} (hS : S39 [.c (.sl [.int .i64, .int .i64, .int .i64, .int .i64] x1)] = row) (h : vc39 (stdE Try.prog tbl39) x1 fun c => c = row) : PCg Try.prog 39 S39 [(false, [.int .i64])] [.c (.sl [.int .i64, .int .i64, .int .i64, .int .i64] x1)] := PureC_vc mo h39 (by kernel_rfl) hS (w39  h)
theorem p55 {rs : List R4} (hl : rs.length ≤ 1000000) (al : Bool) (x : Int) : PCg Try.prog 55 S55 [kI] [lC (rowsR rs), .c (.bool al), iC x] := pc55 (q55 rs al x) (v55 hl)
theorem p56 {rs : List R4} (hl : rs.length ≤ 1000000) (x y : Int) : PCg Try.prog 56 S56 [kB] [lC (rowsR rs), iC x, iC y] := pc56 (q56 rs x y) (v56 hl)
theorem p39 {rs : List R4} (hl : rs.length ≤ 1000000) : PCg Try.prog 39 S39 [kI] [lC (rowsR rs)] :=
  pc39 (q39 rs) (v39 (fun al x => q55 rs al x) (fun al x => p55 hl al x) (fun x y => q56 rs x y) (fun x y => p56 hl x y))
noncomputable def S13 (ds : List A) : List C := match ds with
  | [.c (.sl _ xs)] => [.int .i64 (covR (prr xs)), .int .i64 (allE (rowsR (prr xs)))]
  | _ => []
theorem q13 (rs : List R4) : S13 [lC (rowsR rs)] = [.int .i64 (covR rs), .int .i64 (allE (rowsR rs))] := by
  show [C.int .i64 (covR (prr (rowsR rs))), .int .i64 (allE (rowsR (prr (rowsR rs))))] = _; rw [prr_rowsR]
noncomputable def tbl13 : FuncId → List A → List C := fun f ds => match f with
  | 38 => S38 ds
  | 39 => S39 ds
  | _ => []
theorem pc13  {x1 : List (List C)} {row : List C} (hS : S13 [.c (.sl [.int .i64, .int .i64, .int .i64, .int .i64] x1)] = row) (h : vc13 (stdE Try.prog tbl13) x1 fun c => c = row) : PCg Try.prog 13 S13 [(false, [.int .i64]), (false, [.int .i64])] [.c (.sl [.int .i64, .int .i64, .int .i64, .int .i64] x1)] := PureC_vc mo h13 (by kernel_rfl) hS (w13  h)
theorem p13 {rs : List R4} (hl : rs.length ≤ 1000000) : PCg Try.prog 13 S13 [kI, kI] [lC (rowsR rs)] := by
  have a := p38 hl
  have b := p39 hl
  refine pc13 (q13 rs) ?_
  unfold vc13
  simp only [stdE, baseE, Br_iff, tbl13, a, b, true_and, forall_eq]
  simp only [q38, q39, List.getD_cons_zero, gi_int]
  refine ⟨fun h => ?_, fun h => ?_⟩
  · have h' : ¬ allE (rowsR rs) = 0 := by simpa using h
    rw [covR, if_neg h']
  · have h' : allE (rowsR rs) = 0 := by simpa using h
    rw [covR, if_pos h', h']
/-- What Rest hands back. -/
noncomputable def restR (rs : List R4) (q : R4) : Int := if cliE rs q = 0 then areaR q - ptc (clipR rs q) else 0
noncomputable def S14 (ds : List A) : List C := match ds with
  | [.agg [.c (.int _ l), .c (.int _ r), .c (.int _ a), .c (.int _ b)], .c (.sl _ xs)] => [.int .i64 (restR (prr xs) (l, r, a, b)), .int .i64 (cliE (prr xs) (l, r, a, b))]
  | _ => []
noncomputable def S15 : List A → List C := S14
theorem q14 (rs : List R4) (q : R4) : S14 [rR q, lC (rowsR rs)] = [.int .i64 (restR rs q), .int .i64 (cliE rs q)] := by
  show [C.int .i64 (restR (prr (rowsR rs)) q), .int .i64 (cliE (prr (rowsR rs)) q)] = _; rw [prr_rowsR]
theorem q15 (rs : List R4) (q : R4) : S15 [rR q, lC (rowsR rs)] = [.int .i64 (restR rs q), .int .i64 (cliE rs q)] := q14 rs q
def tbl14 : FuncId → List A → List C := fun f ds => match f with
  | 16 => S16 ds
  | 37 => S37 ds
  | 40 => S40 ds
  | _ => []
theorem pc14  {x1 : Int} {x2 : Int} {x3 : Int} {x4 : Int} {x5 : List (List C)} {row : List C} (hS : S14 [.agg [.c (.int .i64 x1), .c (.int .i64 x2), .c (.int .i64 x3), .c (.int .i64 x4)], .c (.sl [.int .i64, .int .i64, .int .i64, .int .i64] x5)] = row) (h : vc14 (stdE Try.prog tbl14) x1 x2 x3 x4 x5 fun c => c = row) : PCg Try.prog 14 S14 [(false, [.int .i64]), (false, [.int .i64])] [.agg [.c (.int .i64 x1), .c (.int .i64 x2), .c (.int .i64 x3), .c (.int .i64 x4)], .c (.sl [.int .i64, .int .i64, .int .i64, .int .i64] x5)] := PureC_vc mo h14 (by kernel_rfl) hS (w14  h)
noncomputable def tbl15 : FuncId → List A → List C := fun f ds => match f with
  | 17 => S17 ds
  | 27 => S27 ds
  | 39 => S39 ds
  | _ => []
theorem pc15  {x1 : Int} {x2 : Int} {x3 : Int} {x4 : Int} {x5 : List (List C)} {row : List C} (hS : S15 [.agg [.c (.int .i64 x1), .c (.int .i64 x2), .c (.int .i64 x3), .c (.int .i64 x4)], .c (.sl [.int .i64, .int .i64, .int .i64, .int .i64] x5)] = row) (h : vc15 (stdE Try.prog tbl15) x1 x2 x3 x4 x5 fun c => c = row) : PCg Try.prog 15 S15 [(false, [.int .i64]), (false, [.int .i64])] [.agg [.c (.int .i64 x1), .c (.int .i64 x2), .c (.int .i64 x3), .c (.int .i64 x4)], .c (.sl [.int .i64, .int .i64, .int .i64, .int .i64] x5)] := PureC_vc mo h15 (by kernel_rfl) hS (w15  h)
theorem rest_in {rs : List R4} {q : R4} (h : cliE rs q = 0) : IntKind.i64.wrap (areaR q - ptc (clipR rs q)) = areaR q - ptc (clipR rs q) := by
  rw [ptc_eq]
  obtain ⟨h1, _⟩ := cliE_ok h
  have a := areaR_ok h1
  have b := pts_nonneg (clipR rs q)
  have c := pts_le (clipR rs q)
  exact wrap_in (by omega) (by omega)
theorem p14 {rs : List R4} (hl : rs.length ≤ 1000000) (l r a b : Int) : PCg Try.prog 14 S14 [kI, kI] [rc l r a b, lC (rowsR rs)] := by
  refine pc14 (q14 rs (l, r, a, b)) ?_
  have k1 := p16 (l := l) (r := r) (a := a) (b := b) hl
  have k2 := p40 l r a b
  have e := q16 rs (l, r, a, b)
  simp only [rR] at e
  unfold vc14
  simp only [stdE, baseE, Br_iff, tbl14, k1, k2, true_and, forall_eq]
  simp only [e, q40, List.getD_cons_zero, List.getD_cons_succ, gi_int, gl_sl]
  refine ⟨fun h => ?_, fun h => ?_⟩
  · have h' : ¬ cliE rs (l, r, a, b) = 0 := by simpa using h
    rw [restR, if_neg h']
  · have h' : cliE rs (l, r, a, b) = 0 := by simpa using h
    obtain ⟨h1, h2, h3⟩ := cliE_ok h'
    have h4 := clipR_ok h3 h1
    rw [if_pos h']
    refine ⟨p37 (Nat.le_trans (clipR_len _ _) h2) h4, ?_⟩
    rw [q37, restR, if_pos h', h', covN_pts h4, ← ptc_eq]
    simp only [List.getD_cons_zero, gi_int]
    rw [arw_ok (r := (l, r, a, b)) h1, rest_in h']
theorem p15 {rs : List R4} (hl : rs.length ≤ 1000000) (l r a b : Int) : PCg Try.prog 15 S15 [kI, kI] [rc l r a b, lC (rowsR rs)] := by
  refine pc15 (q15 rs (l, r, a, b)) ?_
  have k1 := p17 (l := l) (r := r) (a := a) (b := b) hl
  have k2 := p27 l r a b
  have e := q17 rs (l, r, a, b)
  have e2 := q27 (l, r, a, b)
  simp only [rR] at e e2
  unfold vc15
  simp only [stdE, baseE, Br_iff, tbl15, k1, k2, true_and, forall_eq]
  simp only [e, e2, List.getD_cons_zero, List.getD_cons_succ, gi_int, gl_sl]
  refine ⟨fun h => ?_, fun h => ?_⟩
  · have h' : ¬ cliE rs (l, r, a, b) = 0 := by simpa using h
    rw [restR, if_neg h']
  · have h' : cliE rs (l, r, a, b) = 0 := by simpa using h
    obtain ⟨h1, h2, h3⟩ := cliE_ok h'
    have h4 := clipR_ok h3 h1
    rw [if_pos h']
    refine ⟨p39 (by have := clipR_len rs (l, r, a, b); omega), ?_⟩
    rw [q39, restR, if_pos h', h']
    simp only [List.getD_cons_zero, gi_int]
    have e3 : chkR (l, r, a, b) = 0 := ok_chk h1
    rw [e3, arw_ok (r := (l, r, a, b)) h1]
    simp only [sel, beq_self_eq_true, if_true]
    rw [rest_in h']
def S3 : List A → List C := fun _ => [.bool true]
noncomputable def tbl3 : FuncId → List A → List C := fun f ds => match f with
  | 11 => S11 ds
  | 12 => S12 ds
  | 13 => S13 ds
  | 14 => S14 ds
  | 15 => S15 ds
  | _ => []
theorem pc3  {x1 : List (List C)} {x2 : Int} {x3 : Int} {x4 : Int} {x5 : Int} {row : List C} (hS : S3 [.c (.sl [.int .i64, .int .i64, .int .i64, .int .i64] x1), .agg [.c (.int .i64 x2), .c (.int .i64 x3), .c (.int .i64 x4), .c (.int .i64 x5)]] = row) (h : vc3 (stdE Try.prog tbl3) x1 x2 x3 x4 x5 fun c => c = row) : PCg Try.prog 3 S3 [(false, [.bool])] [.c (.sl [.int .i64, .int .i64, .int .i64, .int .i64] x1), .agg [.c (.int .i64 x2), .c (.int .i64 x3), .c (.int .i64 x4), .c (.int .i64 x5)]] := PureC_vc mo h3 (by kernel_rfl) hS (w3  h)
theorem p3 {rs : List R4} {l r a b : Int} : PureC Try.prog 3 [kB] [lC (rowsR rs), rc l r a b] fun _ => .bool true := by
  refine PureC.one (get := fun i => (S3 [lC (rowsR rs), rc l r a b]).getD i .nil) (pc3 (row := [.bool true]) rfl ?_) rfl
  unfold vc3
  simp only [stdE, baseE, Br_iff, tbl3, p11, true_and, forall_eq, decide_eq_true_eq, decide_eq_false_iff_not, rowsR_len]
  refine ⟨fun _ => rfl, fun h => ?_⟩
  have hl : rs.length ≤ 1000000 := by omega
  have e := q14 rs (l, r, a, b)
  have e2 := q15 rs (l, r, a, b)
  simp only [rR] at e e2
  simp only [p12 hl, p13 hl, p14 hl, p15 hl, true_and]
  simp only [q12, q13, e, e2, q11, List.getD_cons_zero, List.getD_cons_succ, gi_int, gb_bool]
  simp [Imp_iff]
end Go.Proofs.Ytjckgkhojjnkdaa.V
