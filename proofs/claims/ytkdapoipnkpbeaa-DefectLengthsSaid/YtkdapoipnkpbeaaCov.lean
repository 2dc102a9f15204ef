/- Rectangles: what Cover, Clip and Rest hand back, in the program and in the reference. No conditions. -/
import Derived.Test.YtkdapoipnkpbeaaGA
import Derived.Test.YtkdapoipnkpbeaaPoints
import Derived.Test.YtkdapoipnkpbeaaCovers
set_option linter.unusedVariables false
set_option linter.unusedSimpArgs false
namespace Go.Proofs.Ytkdapoipnkpbeaa.R
open Go Go.Eng Go.Span
set_option maxRecDepth 1000000
set_option maxHeartbeats 1000000
abbrev rR (r : R4) : A := rc r.1 r.2.1 r.2.2.1 r.2.2.2
def chkR (r : R4) : Int := chk r.1 r.2.1 r.2.2.1 r.2.2.2
/-- The rows are rectangles. -/
theorem rows_R {xs : List (List C)} (h : ∀ r ∈ xs, FitR i4 r) : ∃ rs : List R4, xs = rowsR rs := by
  induction xs with
  | nil => exact ⟨[], rfl⟩
  | cons x xs ih =>
    obtain ⟨rs, rfl⟩ := ih fun r hr => h r (List.mem_cons_of_mem _ hr)
    match x, h x (by simp) with
    | [.int k1 l, .int k2 r, .int k3 a, .int k4 b], h =>
      simp only [FitR, FitC] at h
      obtain ⟨⟨rfl, _⟩, ⟨rfl, _⟩, ⟨rfl, _⟩, ⟨rfl, _⟩, _⟩ := h
      exact ⟨(l, r, a, b) :: rs, rfl⟩
theorem rowsR_c0 (rs : List R4) (i : Nat) : (cellAt (rowsR rs) i 0).gi = (rs.getD i (0, 0, 0, 0)).1 := (rowsR_getD rs i).1
theorem rowsR_c1 (rs : List R4) (i : Nat) : (cellAt (rowsR rs) i 1).gi = (rs.getD i (0, 0, 0, 0)).2.1 := (rowsR_getD rs i).2.1
theorem rowsR_c2 (rs : List R4) (i : Nat) : (cellAt (rowsR rs) i 2).gi = (rs.getD i (0, 0, 0, 0)).2.2.1 := (rowsR_getD rs i).2.2.1
theorem rowsR_c3 (rs : List R4) (i : Nat) : (cellAt (rowsR rs) i 3).gi = (rs.getD i (0, 0, 0, 0)).2.2.2 := (rowsR_getD rs i).2.2.2
theorem rowsR_append (a b : List R4) : rowsR (a ++ b) = rowsR a ++ rowsR b := by simp [rowsR]
/-- What Clip makes of a list. -/
theorem clipTo_R (rs : List R4) (q : R4) : ∀ i, i ≤ rs.length → clipTo (rowsR rs) q.1 q.2.1 q.2.2.1 q.2.2.2 i = rowsR (clipR (rs.take i) q)
  | 0, _ => rfl
  | i + 1, h => by
    have hlt : i < rs.length := h
    have hg : rs.getD i (0, 0, 0, 0) = rs[i] := by simp [List.getD, hlt]
    rw [clipTo, clipTo_R rs q i (by omega), List.take_add_one, List.getElem?_eq_getElem hlt]
    unfold clipR isAt comAt ce
    rw [rowsR_c0, rowsR_c1, rowsR_c2, rowsR_c3, hg, Option.toList_some, List.filter_append, List.map_append, rowsR_append]
    congr 1
    have hb : comB rs[i] q = comI (rs[i]).1 (rs[i]).2.1 (rs[i]).2.2.1 (rs[i]).2.2.2 q.1 q.2.1 q.2.2.1 q.2.2.2 := rfl
    rw [← hb]
    cases hc : comB rs[i] q with
    | false => simp [hc, rowsR]
    | true =>
      have : comE (rs[i]).1 (rs[i]).2.1 (rs[i]).2.2.1 (rs[i]).2.2.2 q.1 q.2.1 q.2.2.1 q.2.2.2 = false := by
        rw [hb, com_is] at hc; simpa using hc
      simp [hc, rowsR, this, zs, comR]
def cliE (rs : List R4) (q : R4) : Int := clipE (rowsR rs) q.1 q.2.1 q.2.2.1 q.2.2.2
theorem clipL_R (rs : List R4) (q : R4) : clipL (rowsR rs) q.1 q.2.1 q.2.2.1 q.2.2.2 = rowsR (if cliE rs q = 0 then clipR rs q else []) := by
  unfold clipL cliE
  split
  · rw [rowsR_len, clipTo_R rs q _ (Nat.le_refl _), List.take_length]
  · rfl
theorem cliE_ok {rs : List R4} {q : R4} (h : cliE rs q = 0) : okR q ∧ rs.length ≤ 64 ∧ ∀ r ∈ rs, okR r := by
  unfold cliE clipE at h
  split at h
  · rename_i hq
    obtain ⟨h1, h2⟩ := allE_ok h
    exact ⟨chk_okR hq, h1, h2⟩
  · rename_i hq; exact absurd h hq
theorem clipR_ok {rs : List R4} {q : R4} (hr : ∀ r ∈ rs, okR r) (hq : okR q) : ∀ r ∈ clipR rs q, okR r := fun r h => by
  obtain ⟨a, ha, rfl⟩ := List.mem_map.1 h
  obtain ⟨ha, hc⟩ := List.mem_filter.1 ha
  exact okR_com (hr a ha) hq hc
theorem clipR_len (rs : List R4) (q : R4) : (clipR rs q).length ≤ rs.length := by rw [clipR, List.length_map]; exact List.length_filter_le _ _
/-- The area. -/
def areaR (r : R4) : Int := (r.2.1 - r.1) * (r.2.2.2 - r.2.2.1)
theorem areaR_ok {r : R4} (h : okR r) : 0 ≤ areaR r ∧ areaR r ≤ 12000 * 17179869184 := by
  have := pts_one h
  unfold areaR
  rw [← this]
  exact ⟨pts_nonneg _, pts_le _⟩
theorem arw_ok {r : R4} (h : okR r) : arw r.1 r.2.1 r.2.2.1 r.2.2.2 = areaR r := by
  have k := areaR_ok h
  unfold okR at h
  unfold arw areaR at *
  rw [wrap_in (n := r.2.1 - r.1) (by omega) (by omega), wrap_in (n := r.2.2.2 - r.2.2.1) (by omega) (by omega), wrap_in (by omega) (by omega)]
theorem ok_chk {r : R4} (h : okR r) : chk r.1 r.2.1 r.2.2.1 r.2.2.2 = 0 := by
  unfold okR at h
  unfold chk
  rw [if_neg (by omega)]
/-! ### Contracts that lie -/
def S40 : List A → List C := tb6 40
def S29 : List A → List C := tb6 29
def S26 : List A → List C := tb6 26
def S52 : List A → List C := tb6 52
def S55 : List A → List C := tb6 55
theorem p12 {rs : List R4} (hl : rs.length ≤ 1000000) : PCg Try.prog 40 S40 [kI, kI] [lC (rowsR rs)] := k12 hl
theorem p28 (l r a b l' r' a' b' : Int) : PCg Try.prog 29 S29 [kR, kB] [rc l r a b, rc l' r' a' b'] := c28 l r a b l' r' a' b'
theorem p32 (l r a b l' r' a' b' : Int) : PCg Try.prog 26 S26 [kB] [rc l r a b, rc l' r' a' b'] := c32 l r a b l' r' a' b'
theorem p37 {rs : List R4} (hl : rs.length ≤ 64) (hr : ∀ r ∈ rs, okR r) : PCg Try.prog 52 S52 [kI] [lC (rowsR rs)] := k37 hl hr
theorem p38 {rs : List R4} (hl : rs.length ≤ 1000000) : PCg Try.prog 55 S55 [kI] [lC (rowsR rs)] := d38 (by rw [rowsR_len]; omega)
/-- pts, never unfolded. -/
noncomputable def ptc (rs : List R4) : Int := Classical.choose (⟨pts rs, rfl⟩ : ∃ n, n = pts rs)
theorem ptc_eq (rs : List R4) : ptc rs = pts rs := Classical.choose_spec (⟨pts rs, rfl⟩ : ∃ n, n = pts rs)
noncomputable def covR (rs : List R4) : Int := if allE (rowsR rs) = 0 then ptc rs else 0
theorem q12 (rs : List R4) : S40 [lC (rowsR rs)] = [.int .i64 (covR rs), .int .i64 (allE (rowsR rs))] := by
  refine (v12 rs).trans ?_
  unfold covR
  split
  · rename_i h; rw [covN_pts (allE_ok h).2, ptc_eq]
  · rfl
theorem q37 (rs : List R4) : S52 [lC (rowsR rs)] = [.int .i64 (covN rs)] := v37 rs
theorem q38 (rs : List R4) : S55 [lC (rowsR rs)] = [.int .i64 (allE (rowsR rs))] := rfl
/-! ### The reference's count -/
theorem foldl_take {α β : Type} (f : β → α → β) (b : β) (l : List α) (d : α) {i : Nat} (h : i < l.length) : (l.take (i + 1)).foldl f b = f ((l.take i).foldl f b) (l.getD i d) := by
  rw [List.take_add_one, List.foldl_append]
  simp [List.getD, h]
/-- The least end above x, so far n, of one rectangle more. -/
def nx (al : Bool) (x n : Int) (r : R4) : Int :=
  if al then (if x < r.2.2.2 then mn (if x < r.2.2.1 then mn n r.2.2.1 else n) r.2.2.2 else if x < r.2.2.1 then mn n r.2.2.1 else n)
  else (if x < r.2.1 then mn (if x < r.1 then mn n r.1 else n) r.2.1 else if x < r.1 then mn n r.1 else n)
def nxt (al : Bool) (rs : List R4) (x : Int) : Int := rs.foldl (nx al x) 17179869184
theorem v55 {tbl : FuncId → List A → List C} {P : Program} {rs : List R4} {al : Bool} {x : Int} (hl : rs.length ≤ 1000000) : vc71 (stdE P tbl) (rowsR rs) al x fun c => c = [.int .i64 (nxt al rs x)] := by
  unfold vc71
  simp only [stdE, baseE, Br_iff, decide_eq_true_eq, decide_eq_false_iff_not, rowsR_len]
  refine LoopP2.run (fun n => (rs.take n).foldl (nx al x) 17179869184) (fun n : Nat => (n : Int)) (fun n => n ≤ rs.length) (fun n => rs.length - n) 0 (Nat.zero_le _) rfl rfl ?_
  intro n hn K hK
  simp only [toNat_cast, rowsR_c0, rowsR_c1, rowsR_c2, rowsR_c3]
  refine ⟨fun h => ?_, fun h => ?_⟩
  · have hlt : n < rs.length := Int.ofNat_lt.1 h
    have hw := wrap_up (n := n) rfl (by omega)
    have hs := foldl_take (nx al x) 17179869184 rs (0, 0, 0, 0) hlt
    have key : ∀ y, y = nx al x ((rs.take n).foldl (nx al x) 17179869184) (rs.getD n (0, 0, 0, 0)) → K y (IntKind.i64.wrap ((n : Int) + 1)) := fun y hy => hK _ _ (n + 1) hlt (by omega) (by rw [hy, hs]) hw
    refine ⟨Int.natCast_nonneg n, fun ha => ⟨fun h1 => ⟨fun h2 => ?_, fun h2 => ?_⟩, fun h1 => ⟨fun h2 => ?_, fun h2 => ?_⟩⟩, fun ha => ⟨fun h1 => ⟨fun h2 => ?_, fun h2 => ?_⟩, fun h1 => ⟨fun h2 => ?_, fun h2 => ?_⟩⟩⟩
    all_goals (refine key _ ?_; simp only [nx, ha, h1, h2, if_true, if_false, mn]; try rfl)
  · have : n = rs.length := by omega
    subst this
    rw [List.take_length]; rfl
def inB1 (x y : Int) (r : R4) : Bool := decide (r.1 ≤ x ∧ x < r.2.1 ∧ r.2.2.1 ≤ y ∧ y < r.2.2.2)
def inB (rs : List R4) (x y : Int) : Bool := rs.any (inB1 x y)
theorem inB_iff (rs : List R4) (x y : Int) : inB rs x y = true ↔ inR rs x y := by
  unfold inB inB1 inR
  simp
theorem any_take {α : Type} (f : α → Bool) (l : List α) (d : α) {i : Nat} (h : i < l.length) : (l.take (i + 1)).any f = ((l.take i).any f || f (l.getD i d)) := by
  rw [List.take_add_one, List.any_append]
  simp [List.getD, h]
theorem v56 {tbl : FuncId → List A → List C} {P : Program} {rs : List R4} {x y : Int} (hl : rs.length ≤ 1000000) : vc72 (stdE P tbl) (rowsR rs) x y fun c => c = [.bool (inB rs x y)] := by
  unfold vc72
  simp only [stdE, baseE, Br_iff, decide_eq_true_eq, decide_eq_false_iff_not, rowsR_len]
  refine LoopP1.run (fun n : Nat => (n : Int)) (fun n => n ≤ rs.length ∧ (rs.take n).any (inB1 x y) = false) (fun n => rs.length - n) 0 ⟨Nat.zero_le _, rfl⟩ rfl ?_
  intro n ⟨hn, ha⟩ K hK
  simp only [toNat_cast, rowsR_c0, rowsR_c1, rowsR_c2, rowsR_c3]
  refine ⟨fun h => ?_, fun h => ?_⟩
  · have hlt : n < rs.length := Int.ofNat_lt.1 h
    have hw := wrap_up (n := n) rfl (by omega)
    have hs := any_take (inB1 x y) rs (0, 0, 0, 0) hlt
    rw [ha, Bool.false_or] at hs
    refine ⟨Int.natCast_nonneg n, fun h1 => ?_, fun h1 => hK _ (n + 1) ⟨hlt, ?_⟩ (by omega) hw⟩
    · have : inB1 x y (rs.getD n (0, 0, 0, 0)) = true := by simpa [inB1, and_assoc] using h1
      rw [this] at hs
      have : inB rs x y = true := by
        rw [inB, ← List.take_append_drop (n + 1) rs, List.any_append, hs]; rfl
      rw [this]
    · rw [hs]
      simpa [inB1, and_assoc] using h1
  · have : n = rs.length := by omega
    subst this
    rw [List.take_length] at ha
    rw [inB, ha]
/-- How many points of line y are in them. -/
def linN (rs : List R4) (y : Int) : Int := sm wd fun x => Go.Span.one (inR rs x y)
theorem sm_swap (m n : Nat) (f : Nat → Nat → Int) : sm m (fun x => sm n fun y => f x y) = sm n fun y => sm m fun x => f x y := by
  induction m with
  | zero => simp only [sm]; rw [sm_zero]
  | succ m ih => simp only [sm]; rw [ih, ← sm_add]
theorem pts_lin (rs : List R4) : pts rs = sm ln fun y => linN rs y := sm_swap _ _ _
theorem mn_le (a b : Int) : mn a b ≤ a ∧ mn a b ≤ b ∧ (mn a b = a ∨ mn a b = b) := by unfold mn; split <;> omega
theorem nx_ok (al : Bool) (x n : Int) (r : R4) (hx : x < n) : x < nx al x n r ∧ nx al x n r ≤ n ∧ (x < (if al then r.2.2.1 else r.1) → nx al x n r ≤ if al then r.2.2.1 else r.1) ∧ (x < (if al then r.2.2.2 else r.2.1) → nx al x n r ≤ if al then r.2.2.2 else r.2.1) := by
  unfold nx
  cases al <;> simp only [if_true, if_false, Bool.false_eq_true]
  · have a1 := mn_le n r.1; have a2 := mn_le n r.2.1; have a3 := mn_le (mn n r.1) r.2.1
    repeat' split
    all_goals omega
  · have a1 := mn_le n r.2.2.1; have a2 := mn_le n r.2.2.2; have a3 := mn_le (mn n r.2.2.1) r.2.2.2
    repeat' split
    all_goals omega
theorem foldnx_ok (al : Bool) (x : Int) : ∀ (rs : List R4) (n : Int), x < n → x < rs.foldl (nx al x) n ∧ rs.foldl (nx al x) n ≤ n ∧ ∀ r ∈ rs, (x < (if al then r.2.2.1 else r.1) → rs.foldl (nx al x) n ≤ if al then r.2.2.1 else r.1) ∧ (x < (if al then r.2.2.2 else r.2.1) → rs.foldl (nx al x) n ≤ if al then r.2.2.2 else r.2.1)
  | [], n, h => ⟨h, Int.le_refl _, fun r hr => by cases hr⟩
  | r :: rs, n, h => by
    obtain ⟨a, b, c, d⟩ := nx_ok al x n r h
    obtain ⟨e, f, g⟩ := foldnx_ok al x rs (nx al x n r) a
    refine ⟨e, Int.le_trans f b, fun q hq => ?_⟩
    rcases List.mem_cons.1 hq with rfl | hq
    · exact ⟨fun k => Int.le_trans f (c k), fun k => Int.le_trans f (d k)⟩
    · exact g q hq
theorem nxt_ok (al : Bool) (rs : List R4) {x : Int} (h : x < 17179869184) : x < nxt al rs x ∧ nxt al rs x ≤ 17179869184 ∧ ∀ r ∈ rs, (x < (if al then r.2.2.1 else r.1) → nxt al rs x ≤ if al then r.2.2.1 else r.1) ∧ (x < (if al then r.2.2.2 else r.2.1) → nxt al rs x ≤ if al then r.2.2.2 else r.2.1) :=
  foldnx_ok al x rs _ h
theorem inR_right {rs : List R4} {x x' y : Int} (h : x < 17179869184) (h1 : x ≤ x') (h2 : x' < nxt false rs x) : inR rs x' y ↔ inR rs x y := by
  obtain ⟨a, b, c⟩ := nxt_ok false rs h
  simp only [Bool.false_eq_true, if_false] at c
  constructor
  · rintro ⟨r, hr, k⟩; have := c r hr; exact ⟨r, hr, by omega, by omega, k.2.2⟩
  · rintro ⟨r, hr, k⟩; have := c r hr; exact ⟨r, hr, by omega, by omega, k.2.2⟩
theorem inR_up {rs : List R4} {x y y' : Int} (h : y < 17179869184) (h1 : y ≤ y') (h2 : y' < nxt true rs y) : inR rs x y' ↔ inR rs x y := by
  obtain ⟨a, b, c⟩ := nxt_ok true rs h
  simp only [if_true] at c
  constructor
  · rintro ⟨r, hr, k⟩; have := c r hr; exact ⟨r, hr, k.1, k.2.1, by omega, by omega⟩
  · rintro ⟨r, hr, k⟩; have := c r hr; exact ⟨r, hr, k.1, k.2.1, by omega, by omega⟩
theorem sm_le_n {n : Nat} {f : Nat → Int} {c : Int} (h : ∀ k, k < n → 0 ≤ f k ∧ f k ≤ c) : 0 ≤ sm n f ∧ sm n f ≤ c * n := by
  induction n with
  | zero => simp [sm]
  | succ n ih =>
    have := ih fun k hk => h k (by omega)
    have := h n (by omega)
    rw [sm, Int.natCast_succ, Int.mul_add]
    omega
theorem linN_ok (rs : List R4) (y : Int) : 0 ≤ linN rs y ∧ linN rs y ≤ 12000 := sm_one_le wd _
theorem v39 {P : Program} {tbl : FuncId → List A → List C} {rs : List R4} (h55 : ∀ al x, tbl 71 [.c (.sl i4 (rowsR rs)), .c (.bool al), .c (.int .i64 x)] = [.int .i64 (nxt al rs x)]) (p55 : ∀ al x, PureC P 71 [(false, [.int .i64])] [.c (.sl i4 (rowsR rs)), .c (.bool al), .c (.int .i64 x)] fun i => (tbl 71 [.c (.sl i4 (rowsR rs)), .c (.bool al), .c (.int .i64 x)]).getD i .nil)
    (h56 : ∀ x y, tbl 72 [.c (.sl i4 (rowsR rs)), .c (.int .i64 x), .c (.int .i64 y)] = [.bool (inB rs x y)]) (p56 : ∀ x y, PureC P 72 [(false, [.bool])] [.c (.sl i4 (rowsR rs)), .c (.int .i64 x), .c (.int .i64 y)] fun i => (tbl 72 [.c (.sl i4 (rowsR rs)), .c (.int .i64 x), .c (.int .i64 y)]).getD i .nil) :
    vc56 (stdE P tbl) (rowsR rs) fun c => c = [.int .i64 (ptc rs)] := by
  unfold vc56
  simp only [stdE, baseE, Br_iff, decide_eq_true_eq, decide_eq_false_iff_not, forall_eq, p55, p56, true_and]
  simp only [h55, h56, List.getD_cons_zero, gi_int, gb_bool]
  refine LoopP2.run (fun y : Nat => sm y fun k => linN rs k) (fun y : Nat => (y : Int)) (fun y => y ≤ ln) (fun y => ln - y) 0 (Nat.zero_le _) rfl rfl ?_
  intro y hy K hK
  refine ⟨fun h => ?_, fun h => ?_⟩
  · obtain ⟨u1, u2, _⟩ := nxt_ok true rs h
    refine LoopP2.run (fun x : Nat => sm x fun k => Go.Span.one (inR rs k y)) (fun x : Nat => (x : Int)) (fun x => x ≤ wd) (fun x => wd - x) 0 (Nat.zero_le _) rfl rfl ?_
    intro x hx K2 hK2
    have hc := sm_one_le x fun k => inR rs k y
    have hx2 : x ≤ 12000 := hx
    refine ⟨fun h2 => ?_, fun h2 => ?_⟩
    · obtain ⟨r1, r2, _⟩ := nxt_ok false rs (x := x) (by omega)
      have hm := mn_le (nxt false rs x) 12000
      change mn (nxt false rs x) 12000 ≤ _ ∧ _ at hm
      obtain ⟨x', hx'⟩ : ∃ x' : Nat, mn (nxt false rs x) 12000 = x' := ⟨(mn (nxt false rs x) 12000).toNat, by omega⟩
      have e : (if 12000 < nxt false rs x then (12000 : Int) else nxt false rs x) = x' := hx'
      rw [hx'] at hm
      have hsp : sm x' (fun k => Go.Span.one (inR rs k y)) = sm x (fun k => Go.Span.one (inR rs k y)) + Go.Span.one (inR rs x y) * ((x' : Int) - x) := by
        refine sm_split (by omega) fun k k1 k2 => ?_
        have := inR_right (rs := rs) (x := x) (x' := k) (y := y) (by omega) (by omega) (by omega)
        unfold Go.Span.one
        by_cases q : inR rs x y
        · rw [if_pos q, if_pos (this.2 q)]
        · rw [if_neg q, if_neg fun w => q (this.1 w)]
      rw [e]
      refine ⟨fun h3 => ?_, fun h3 => ?_⟩
      · rw [inB_iff] at h3
        refine hK2 _ _ x' (by unfold wd; omega) (by unfold wd; omega) ?_ rfl
        rw [wrap_in (n := _ + (x' : Int)) (by omega) (by omega), wrap_in (by omega) (by omega), hsp]
        unfold Go.Span.one
        rw [if_pos h3]; omega
      · refine hK2 _ _ x' (by unfold wd; omega) (by unfold wd; omega) ?_ rfl
        have : ¬ inR rs x y := fun q => by rw [(inB_iff rs x y).2 q] at h3; cases h3
        rw [hsp]
        unfold Go.Span.one
        rw [if_neg this]; omega
    · have hxe : x = wd := by unfold wd at *; omega
      subst hxe
      obtain ⟨y', hy'⟩ : ∃ y' : Nat, nxt true rs y = y' := ⟨(nxt true rs y).toNat, by omega⟩
      rw [hy'] at u1 u2 ⊢
      have hsp : sm y' (fun k => linN rs k) = sm y (fun k => linN rs k) + linN rs y * ((y' : Int) - y) := by
        refine sm_split (by omega) fun k k1 k2 => ?_
        refine sm_congr fun x _ => ?_
        have := inR_up (rs := rs) (x := x) (y := y) (y' := k) h (by omega) (by omega)
        unfold Go.Span.one
        by_cases q : inR rs x y
        · rw [if_pos q, if_pos (this.2 q)]
        · rw [if_neg q, if_neg fun w => q (this.1 w)]
      have b1 := sm_le_n (n := y) (f := fun k => linN rs k) (c := 12000) fun k _ => linN_ok rs k
      have b2 := sm_le_n (n := y') (f := fun k => linN rs k) (c := 12000) fun k _ => linN_ok rs k
      have l1 := linN_ok rs y
      refine hK _ _ y' (by unfold ln; omega) (by unfold ln; omega) ?_ rfl
      change IntKind.i64.wrap (_ + IntKind.i64.wrap (linN rs y * _)) = _
      rw [hsp] at b2 ⊢
      rw [wrap_in (n := (y' : Int) - y) (by omega) (by omega), wrap_in (n := linN rs y * _) (by omega) (by omega), wrap_in (by omega) (by omega)]
  · have : y = ln := by unfold ln at *; omega
    subst this
    rw [ptc_eq, pts_lin]
def S71 (ds : List A) : List C := match ds with
  | [.c (.sl _ xs), .c (.bool al), .c (.int _ x)] => [.int .i64 (nxt al (prr xs) x)]
  | _ => []
def S72 (ds : List A) : List C := match ds with
  | [.c (.sl _ xs), .c (.int _ x), .c (.int _ y)] => [.bool (inB (prr xs) x y)]
  | _ => []
noncomputable def S56 (ds : List A) : List C := match ds with
  | [.c (.sl _ xs)] => [.int .i64 (ptc (prr xs))]
  | _ => []
theorem q55 (rs : List R4) (al : Bool) (x : Int) : S71 [lC (rowsR rs), .c (.bool al), iC x] = [.int .i64 (nxt al rs x)] := by
  show [C.int .i64 (nxt al (prr (rowsR rs)) x)] = _; rw [prr_rowsR]
theorem q56 (rs : List R4) (x y : Int) : S72 [lC (rowsR rs), iC x, iC y] = [.bool (inB rs x y)] := by
  show [C.bool (inB (prr (rowsR rs)) x y)] = _; rw [prr_rowsR]
theorem q39 (rs : List R4) : S56 [lC (rowsR rs)] = [.int .i64 (ptc rs)] := by
  show [C.int .i64 (ptc (prr (rowsR rs)))] = _; rw [prr_rowsR]
def tbl71 : FuncId → List A → List C := fun f ds => match f with
  | _ => []
theorem pc71  {x1 : List (List C)} {x2 : Bool} {x3 : Int} {row : List C} (hS : S71 [.c (.sl [.int .i64, .int .i64, .int .i64, .int .i64] x1), .c (.bool x2), .c (.int .i64 x3)] = row) (h : vc71 (stdE Try.prog tbl71) x1 x2 x3 fun c => c = row) : PCg Try.prog 71 S71 [(false, [.int .i64])] [.c (.sl [.int .i64, .int .i64, .int .i64, .int .i64] x1), .c (.bool x2), .c (.int .i64 x3)] := PureC_vc mo h71 (by kernel_rfl) hS (w71  h)
def tbl72 : FuncId → List A → List C := fun f ds => match f with
  | _ => []
theorem pc72  {x1 : List (List C)} {x2 : Int} {x3 : Int} {row : List C} (hS : S72 [.c (.sl [.int .i64, .int .i64, .int .i64, .int .i64] x1), .c (.int .i64 x2), .c (.int .i64 x3)] = row) (h : vc72 (stdE Try.prog tbl72) x1 x2 x3 fun c => c = row) : PCg Try.prog 72 S72 [(false, [.bool])] [.c (.sl [.int .i64, .int .i64, .int .i64, .int .i64] x1), .c (.int .i64 x2), .c (.int .i64 x3)] := PureC_vc mo h72 (by kernel_rfl) hS (w72  h)
def tbl56 : FuncId → List A → List C := fun f ds => match f with
  | 71 => S71 ds
  | 72 => S72 ds
  | _ => []
theorem pc56  {x1 : List (List C)} {row : List C} (hS : S56 [.c (.sl [.int .i64, .int .i64, .int .i64, .int .i64] x1)] = row) (h : vc56 (stdE Try.prog tbl56) x1 fun c => c = row) : PCg Try.prog 56 S56 [(false, [.int .i64])] [.c (.sl [.int .i64, .int .i64, .int .i64, .int .i64] x1)] := PureC_vc mo h56 (by kernel_rfl) hS (w56  h)
theorem p55 {rs : List R4} (hl : rs.length ≤ 1000000) (al : Bool) (x : Int) : PCg Try.prog 71 S71 [kI] [lC (rowsR rs), .c (.bool al), iC x] := pc71 (q55 rs al x) (v55 hl)
theorem p56 {rs : List R4} (hl : rs.length ≤ 1000000) (x y : Int) : PCg Try.prog 72 S72 [kB] [lC (rowsR rs), iC x, iC y] := pc72 (q56 rs x y) (v56 hl)
theorem p39 {rs : List R4} (hl : rs.length ≤ 1000000) : PCg Try.prog 56 S56 [kI] [lC (rowsR rs)] :=
  pc56 (q39 rs) (v39 (fun al x => q55 rs al x) (fun al x => p55 hl al x) (fun x y => q56 rs x y) (fun x y => p56 hl x y))
noncomputable def S44 (ds : List A) : List C := match ds with
  | [.c (.sl _ xs)] => [.int .i64 (covR (prr xs)), .int .i64 (allE (rowsR (prr xs)))]
  | _ => []
theorem q13 (rs : List R4) : S44 [lC (rowsR rs)] = [.int .i64 (covR rs), .int .i64 (allE (rowsR rs))] := by
  show [C.int .i64 (covR (prr (rowsR rs))), .int .i64 (allE (rowsR (prr (rowsR rs))))] = _; rw [prr_rowsR]
noncomputable def tbl44 : FuncId → List A → List C := fun f ds => match f with
  | 55 => S55 ds
  | 56 => S56 ds
  | _ => []
theorem pc44  {x1 : List (List C)} {row : List C} (hS : S44 [.c (.sl [.int .i64, .int .i64, .int .i64, .int .i64] x1)] = row) (h : vc44 (stdE Try.prog tbl44) x1 fun c => c = row) : PCg Try.prog 44 S44 [(false, [.int .i64]), (false, [.int .i64])] [.c (.sl [.int .i64, .int .i64, .int .i64, .int .i64] x1)] := PureC_vc mo h44 (by kernel_rfl) hS (w44  h)
theorem p13 {rs : List R4} (hl : rs.length ≤ 1000000) : PCg Try.prog 44 S44 [kI, kI] [lC (rowsR rs)] := by
  have a := p38 hl
  have b := p39 hl
  refine pc44 (q13 rs) ?_
  unfold vc44
  simp only [stdE, baseE, Br_iff, tbl44, a, b, true_and, forall_eq]
  simp only [q38, q39, List.getD_cons_zero, gi_int]
  refine ⟨fun h => ?_, fun h => ?_⟩
  · have h' : ¬ allE (rowsR rs) = 0 := by simpa using h
    rw [covR, if_neg h']
  · have h' : allE (rowsR rs) = 0 := by simpa using h
    rw [covR, if_pos h', h']
/-- What Rest hands back. -/
noncomputable def restR (rs : List R4) (q : R4) : Int := if cliE rs q = 0 then areaR q - ptc (clipR rs q) else 0
theorem rest_in {rs : List R4} {q : R4} (h : cliE rs q = 0) : IntKind.i64.wrap (areaR q - ptc (clipR rs q)) = areaR q - ptc (clipR rs q) := by
  rw [ptc_eq]
  obtain ⟨h1, _⟩ := cliE_ok h
  have a := areaR_ok h1
  have b := pts_nonneg (clipR rs q)
  have c := pts_le (clipR rs q)
  exact wrap_in (by omega) (by omega)
def S3 : List A → List C := fun _ => [.bool true]
end Go.Proofs.Ytkdapoipnkpbeaa.R
