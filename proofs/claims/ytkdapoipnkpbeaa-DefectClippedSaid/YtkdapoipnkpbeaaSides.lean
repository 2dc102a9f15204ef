/- RectSides: the spans of rectangles, in the program and in the reference. No conditions. -/
import Derived.Test.YtkdapoipnkpbeaaSets
set_option linter.unusedVariables false
set_option linter.unusedSimpArgs false
namespace Go.Proofs.Ytkdapoipnkpbeaa.R
open Go Go.Eng Go.Span
set_option maxRecDepth 1000000
set_option maxHeartbeats 1000000
theorem sort49C : OnArr spSort [.int .i64] Try.prog 62 := sortC Try.sort62 (by kernel_rfl)
def S50 (ds : List A) : List C := match ds with
  | [.c (.bool a), _] => [.bool a]
  | _ => []
def S49 (ds : List A) : List C := match ds with
  | [.c (.sl _ xs), _, _] => [.sl i2 (rowsP (if spE xs = 0 then nf (prs xs) else [])), .int .i64 (spE xs)]
  | _ => []
def S39 (ds : List A) : List C := match ds with
  | [.c (.sl _ xs)] => [.sl i2 (rowsP (if spE xs = 0 then nf (prs xs) else [])), .int .i64 (spE xs)]
  | _ => []
def tbl50 : FuncId → List A → List C := fun f ds => match f with
  | _ => []
theorem pc50  {x1 : Bool} {x2 : Bool} {row : List C} (hS : S50 [.c (.bool x1), .c (.bool x2)] = row) (h : vc50 (stdE Try.prog tbl50) x1 x2 fun c => c = row) : PCg Try.prog 50 S50 [(false, [.bool])] [.c (.bool x1), .c (.bool x2)] := PureC_vc mo h50 (by kernel_rfl) hS (w50  h)
def tbl49 : FuncId → List A → List C := fun f ds => match f with
  | 50 => S50 ds
  | 59 => S59 ds
  | 60 => S60 ds
  | 61 => S61 ds
  | _ => []
theorem pc49 (ce62 : OnArr spSort [.int .i64] Try.prog 62) {x1 : List (List C)} {row : List C} (hS : S49 [.c (.sl [.int .i64, .int .i64] x1), .c (.nil), .fn 50 []] = row) (h : vc49 (stdE Try.prog tbl49) x1 fun c => c = row) : PCg Try.prog 49 S49 [(false, [.sl [.int .i64, .int .i64]]), (false, [.int .i64])] [.c (.sl [.int .i64, .int .i64] x1), .c (.nil), .fn 50 []] := PureC_vc mo h49 (by kernel_rfl) hS (w49 ce62 h)
def tbl39 : FuncId → List A → List C := fun f ds => match f with
  | 49 => S49 ds
  | _ => []
theorem pc39  {x1 : List (List C)} {row : List C} (hS : S39 [.c (.sl [.int .i64, .int .i64] x1)] = row) (h : vc39 (stdE Try.prog tbl39) x1 fun c => c = row) : PCg Try.prog 39 S39 [(false, [.sl [.int .i64, .int .i64]]), (false, [.int .i64])] [.c (.sl [.int .i64, .int .i64] x1)] := PureC_vc mo h39 (by kernel_rfl) hS (w39  h)
theorem c58 (a b : Bool) : PCg Try.prog 50 S50 [kB] [.c (.bool a), .c (.bool b)] := pc50 rfl rfl
theorem q58 (a b : Bool) : S50 [.c (.bool a), .c (.bool b)] = [.bool a] := rfl
theorem q57 (zs : List (Int × Int)) (a b : A) : S49 [sC (rowsP zs), a, b] = [.sl i2 (rowsP (if spE (rowsP zs) = 0 then nf zs else [])), .int .i64 (spE (rowsP zs))] := q59 zs a b
theorem q41 (zs : List (Int × Int)) : S39 [sC (rowsP zs)] = [.sl i2 (rowsP (if spE (rowsP zs) = 0 then nf zs else [])), .int .i64 (spE (rowsP zs))] := q59 zs .u .u
theorem rowsP_take1 {A : List (Int × Int)} {j : Nat} (h : j < A.length) : rowsP (A.take (j + 1)) = rowsP (A.take j) ++ [[.int .i64 (A.getD j (0, 0)).1, .int .i64 (A.getD j (0, 0)).2]] := by
  have hg : A.getD j (0, 0) = A[j] := by simp [List.getD, h]
  rw [List.take_add_one, List.getElem?_eq_getElem h, hg, rowsP_append]; rfl
theorem flat_take1 {A : List (Int × Int)} {j : Nat} (h : j < A.length) : flat (A.take (j + 1)) = flat (A.take j) ++ [(A.getD j (0, 0)).1, (A.getD j (0, 0)).2] := by
  have hg : A.getD j (0, 0) = A[j] := by simp [List.getD, h]
  rw [List.take_add_one, List.getElem?_eq_getElem h, hg, flat_append]; rfl
/-- The sweep over the ends of a normal form A gives A. -/
theorem c57 {zs : List (Int × Int)} (hzl : zs.length ≤ 1000000) : PCg Try.prog 49 S49 [kS, kI] [sC (rowsP zs), .c .nil, .fn 50 []] := by
  refine pc49 sort49C (q57 zs _ _) ?_
  have k64 := c64 (xs := rowsP zs) (by rw [rowsP_len]; omega)
  unfold vc49
  simp only [stdE, baseE, Br_iff, Imp_iff, tbl49, forall_eq, k64, c64n, c65n, c58, true_and, decide_eq_true_eq, decide_eq_false_iff_not]
  simp only [t64, t64n, t65n, q58, List.getD_cons_zero, gi_int, gl_sl, gb_bool]
  refine ⟨fun w => ?_, fun w => ⟨fun w2 => by simp at w2, fun _ => ?_⟩⟩
  · have w' : ¬ spE (rowsP zs) = 0 := by simpa using w
    rw [if_neg w']; rfl
  · have w' : spE (rowsP zs) = 0 := by simpa using w
    obtain ⟨hl, hb⟩ := spE_ok w'
    refine ⟨c65 (by omega) fun z hz => by have := hb z hz; omega, ?_⟩
    obtain ⟨A, hA⟩ : ∃ A, nf zs = A := ⟨_, rfl⟩
    have hN : NF A := hA ▸ (nf_ok zs).1
    have hAl : A.length ≤ 256 := hA ▸ nf_len64 w'
    have hAb : ∀ z ∈ A, 0 ≤ z.1 ∧ z.2 ≤ 17179869184 := hA ▸ nf_bound fun z hz => ⟨(hb z hz).1, (hb z hz).2.2⟩
    rw [t65, hA, if_pos w', w']
    simp only [List.getD_cons_zero, gl_sl]
    refine ⟨c66 (by rw [rowsP_len]; omega) (by decide), ?_⟩
    have e66 : S61 [.c (.sl [.sl i2] [[.sl i2 (rowsP A)], [.sl i2 []]])] = [.sl i2 (rowsP A ++ [])] := rfl
    rw [e66]
    simp only [List.getD_cons_zero, gl_sl, List.append_nil, rowsP_len, rowsP_c0, rowsP_c1]
    refine LoopP2.run (fun n => rowsI (flat (A.take n))) (fun n : Nat => (n : Int)) (fun n => n ≤ A.length) (fun n => A.length - n) 0 (Nat.zero_le _) rfl rfl ?_
    intro n hn K hK
    refine ⟨fun q => ?_, fun q => ?_⟩
    · have hlt : n < A.length := Int.ofNat_lt.1 q
      rw [toNat_cast]
      refine ⟨Int.natCast_nonneg n, ?_, hK _ _ (n + 1) hlt (by omega) ?_ (wrap_up rfl (by omega))⟩
      · simp only [rowsI_len, Go.Span.flat_len, List.length_take, List.length_cons, List.length_nil]; omega
      · rw [flat_take1 hlt, rowsI_append]; rfl
    · have hnl : n = A.length := by omega
      subst hnl
      clear hK
      rw [List.take_length]
      refine ⟨flat A, rfl, by rw [Go.Span.flat_len]; omega, ?_⟩
      rw [flat_sort hN]
      simp only [rowsI_len, Go.Span.flat_len, rowsI_getD]
      refine LoopP4.run (fun n => rowsP (A.take ((n + 1) / 2))) (fun n : Nat => ((n / 2 : Nat) : Int)) (fun _ => 0) (fun n : Nat => (n : Int)) (fun n => n ≤ 2 * A.length) (fun n => 2 * A.length - n) 0 (Nat.zero_le _) rfl rfl rfl rfl ?_
      intro n hn K hK
      refine ⟨fun q => ?_, fun q => ?_⟩
      · have hlt : n < 2 * A.length := Int.ofNat_lt.1 q
        refine ⟨Int.natCast_nonneg n, ?_⟩
        rw [toNat_cast]
        obtain ⟨at_, hat⟩ : ∃ a, (flat A).getD n 0 = a := ⟨_, rfl⟩
        rw [hat]
        have hpar : (∃ j, n = 2 * j ∧ j < A.length ∧ at_ = (A.getD j (0, 0)).1) ∨ (∃ j, n = 2 * j + 1 ∧ j < A.length ∧ at_ = (A.getD j (0, 0)).2) := by
          rcases Nat.mod_two_eq_zero_or_one n with h | h
          · exact .inl ⟨n / 2, by omega, by omega, by rw [← hat, show n = 2 * (n / 2) by omega, flat_get0]; congr 2; omega⟩
          · exact .inr ⟨n / 2, by omega, by omega, by rw [← hat, show n = 2 * (n / 2) + 1 by omega, flat_get1]; congr 2; omega⟩
        have hend : ∀ m, m < A.length → (n + 1) / 2 ≤ m → at_ < (A.getD m (0, 0)).2 := by
          intro m hm h
          have hm2 := hN.get_lt hm
          have mono : ∀ a b, a < b → b < A.length → (A.getD a (0, 0)).2 < (A.getD b (0, 0)).1 := by
            intro a b hab hb
            have e1 : A.getD a (0, 0) = A[a]'(by omega) := by simp [List.getD, show a < A.length by omega]
            have e2 : A.getD b (0, 0) = A[b] := by simp [List.getD, hb]
            rw [e1, e2]; exact (List.pairwise_iff_getElem.1 hN.2) a b (by omega) hb hab
          rcases hpar with ⟨j, h1, h2, h3⟩ | ⟨j, h1, h2, h3⟩
          · by_cases e : m = j
            · subst e; omega
            · have := mono j m (by omega) hm; have := hN.get_lt h2; omega
          · have := mono j m (by omega) hm; omega
        refine LoopP1.run (fun m : Nat => (m : Int)) (fun m => n / 2 ≤ m ∧ m ≤ (n + 1) / 2) (fun m => (n + 1) / 2 - m) (n / 2) ⟨Nat.le_refl _, by omega⟩ rfl ?_
        rintro m ⟨hm1, hm2⟩ K2 hK2
        rw [toNat_cast]
        refine ⟨fun _ => Int.natCast_nonneg m, fun w2 => ?_, fun w2 => ?_⟩
        · have w3 : m < A.length ∧ (A.getD m (0, 0)).2 ≤ at_ := by
            by_cases z : (m : Int) < A.length
            · rw [if_pos z] at w2; exact ⟨Int.ofNat_lt.1 z, by simpa using w2⟩
            · rw [if_neg z] at w2; cases w2
          have hmm : m < (n + 1) / 2 := Nat.lt_of_not_le fun h => by have := hend m w3.1 h; omega
          exact hK2 _ (m + 1) ⟨by omega, hmm⟩ (by omega) (wrap_up rfl (by omega))
        · -- the second list is empty
          have hmm : m = (n + 1) / 2 := by
            rcases Nat.lt_or_ge m ((n + 1) / 2) with h | h
            · exfalso
              rcases hpar with ⟨j, h1, h2, h3⟩ | ⟨j, h1, h2, h3⟩
              · omega
              · have : m = j := by omega
                subst this
                rw [if_pos (Int.ofNat_lt.2 h2), decide_eq_false_iff_not] at w2
                omega
            · omega
          clear hK2 w2
          refine LoopP1.run (fun _ : Unit => 0) (fun _ => True) (fun _ => 0) () trivial rfl ?_
          intro _ _ K3 _
          refine ⟨fun h => by simp at h, fun h => by simp at h, fun _ => ?_⟩
          have w4 : IntKind.i64.wrap ((n : Int) + 1) = ((n + 1 : Nat) : Int) := wrap_up rfl (by omega)
          rw [w4]
          refine ⟨fun _ => Int.natCast_nonneg _, fun h => ?_, fun h => ?_, fun h => ?_⟩
          · have : ¬ (((n + 1 : Nat) : Int) = ((2 * A.length : Nat) : Int)) := by simpa using h
            omega
          · have hn1 : n + 1 = 2 * A.length := by
              by_cases z : (((n + 1 : Nat) : Int) == ((2 * A.length : Nat) : Int)) = true
              · have := beq_iff_eq.1 z; omega
              · exfalso
                rw [if_neg z, toNat_cast] at h
                have z' : ¬ ((n + 1 : Nat) : Int) = ((2 * A.length : Nat) : Int) := fun e => z (beq_iff_eq.2 e)
                have hp := List.pairwise_iff_getElem.1 (flat_sorted hN)
                have hfl := Go.Span.flat_len A
                have l1 : n < (flat A).length := by omega
                have l2 : n + 1 < (flat A).length := by omega
                have g1 : (flat A).getD n 0 = (flat A)[n] := by simp [List.getD, l1]
                have g2 : (flat A).getD (n + 1) 0 = (flat A)[n + 1] := by simp [List.getD, l2]
                have := hp n (n + 1) l1 l2 (by omega)
                rw [beq_iff_eq, ← hat, g1, g2] at h
                omega
            refine hK _ _ _ _ (n + 1) (by omega) (by omega) ?_ (by rw [hmm]) rfl rfl
            rw [show (n + 1 + 1) / 2 = (n + 1) / 2 by omega]
          · have hn1 : n + 1 < 2 * A.length := by
              rcases Nat.lt_or_ge (n + 1) (2 * A.length) with z | z
              · exact z
              · exfalso
                have : n + 1 = 2 * A.length := by omega
                rw [this] at h
                simp at h
            rcases hpar with ⟨j, h1, h2, h3⟩ | ⟨j, h1, h2, h3⟩
            · have hmj : m = j := by omega
              subst hmj
              rw [if_pos (Int.ofNat_lt.2 h2)]
              refine ⟨fun _ => ⟨Int.natCast_nonneg _, by omega, ?_, hK _ _ _ _ (n + 1) (by omega) (by omega) ?_ (by rw [hmm]) rfl rfl⟩, fun w5 => by rw [decide_eq_false_iff_not] at w5; omega⟩
              · simp only [rowsP_len, List.length_take, List.length_cons, List.length_nil]; omega
              · rw [toNat_cast, h3, h1, flat_get1, show (2 * m + 1) / 2 = m by omega, show (2 * m + 1 + 1) / 2 = m + 1 by omega, rowsP_take1 h2]
            · have hmj : m = j + 1 := by omega
              have gap := hN.get_gap (j := j) (by omega)
              subst hmj
              refine ⟨fun w5 => ?_, fun _ => hK _ _ _ _ (n + 1) (by omega) (by omega) (by rw [show (n + 1 + 1) / 2 = (n + 1) / 2 by omega]) (by rw [hmm]) rfl rfl⟩
              exfalso
              rw [if_pos (by omega), decide_eq_true_eq] at w5
              omega
      · have hn2 : n = 2 * A.length := by omega
        have e0 : (n + 1) / 2 = A.length := by omega
        rw [e0, List.take_length]
        have hb2 : ∀ z ∈ A, -4611686018427387904 ≤ z.1 ∧ z.1 < 4611686018427387904 := fun z hz => by
          have := hAb z hz; have := hN.1 z hz; omega
        refine ⟨c65 (by omega) hb2, ?_⟩
        rw [t65, nf_self hN]
        simp only [List.getD_cons_zero, gl_sl, rowsP_len]
        exact ⟨fun w3 => by omega, fun _ => trivial⟩
theorem c41 {zs : List (Int × Int)} (hzl : zs.length ≤ 1000000) : PCg Try.prog 39 S39 [kS, kI] [sC (rowsP zs)] := by
  refine pc39 (q41 zs) ?_
  unfold vc39
  simp only [stdE, baseE, tbl39, forall_eq, c57 hzl, true_and]
  simp only [q57, List.getD_cons_zero, List.getD_cons_succ, gi_int, gl_sl]
def S51 : List A → List C := tb6 51
def S68 : List A → List C := tb6 68
def S57 : List A → List C := tb6 57
def S46 : List A → List C := tb6 46
theorem p36 {rs : List R4} (hl : rs.length ≤ 1000000) : PCg Try.prog 51 S51 [kI] [lC (rowsR rs)] := k36 (by rw [rowsR_len]; omega)
theorem q36 (rs : List R4) : S51 [lC (rowsR rs)] = [.int .i64 (allE (rowsR rs))] := rfl
theorem p42 {rs : List R4} (hl : rs.length ≤ 1000000) : PCg Try.prog 68 S68 [kS] [lC (rowsR rs)] := e42 (by rw [rowsR_len]; omega)
theorem q42 (rs : List R4) : S68 [lC (rowsR rs)] = [.sl i2 (rowsP (alongR rs))] := by rw [← alongL_rows]; rfl
theorem p43 (l r a b : Int) : PCg Try.prog 57 S57 [kB] [rc l r a b] := c43 l r a b
theorem q43 (l r a b : Int) : S57 [rc l r a b] = [.bool (!emp l r a b)] := rfl
theorem p29 (l r a b l' r' a' b' : Int) : PCg Try.prog 46 S46 [kR, kB] [rc l r a b, rc l' r' a' b'] := c29 l r a b l' r' a' b'
theorem q29 (a b : R4) : S46 [rR a, rR b] = [zs (comE a.1 a.2.1 a.2.2.1 a.2.2.2 b.1 b.2.1 b.2.2.1 b.2.2.2) (Ytkdapoipnkpbeaa.mx a.1 b.1), zs (comE a.1 a.2.1 a.2.2.1 a.2.2.2 b.1 b.2.1 b.2.2.1 b.2.2.2) (mn a.2.1 b.2.1), zs (comE a.1 a.2.1 a.2.2.1 a.2.2.2 b.1 b.2.1 b.2.2.1 b.2.2.2) (Ytkdapoipnkpbeaa.mx a.2.2.1 b.2.2.1), zs (comE a.1 a.2.1 a.2.2.1 a.2.2.2 b.1 b.2.1 b.2.2.1 b.2.2.2) (mn a.2.2.2 b.2.2.2), .bool (comB a b)] := rfl
/-- Across and along, exchanged. -/
def turnR (rs : List R4) : List R4 := rs.map fun r => (r.2.2.1, r.2.2.2, r.1, r.2.1)
def acrR (rs : List R4) : List (Int × Int) := (rs.filter fun r => !emp r.1 r.2.1 r.2.2.1 r.2.2.2).map fun r => (r.1, r.2.1)
theorem along_turn (rs : List R4) : alongR (turnR rs) = acrR rs := by
  induction rs with
  | nil => rfl
  | cons r rs ih =>
    unfold alongR turnR acrR at *
    have e : emp r.2.2.1 r.2.2.2 r.1 r.2.1 = emp r.1 r.2.1 r.2.2.1 r.2.2.2 := by unfold emp; rw [Bool.or_comm]
    simp only [List.map_cons, List.filter_cons, e]
    cases emp r.1 r.2.1 r.2.2.1 r.2.2.2
    · simp only [Bool.not_false, if_true, List.map_cons, ih]
    · simpa using ih
theorem acr_ok {rs : List R4} (hr : ∀ r ∈ rs, okR r) : ∀ z ∈ acrR rs, 0 ≤ z.1 ∧ z.1 ≤ z.2 ∧ z.2 ≤ 17179869184 := by
  intro z hz
  obtain ⟨r, h1, rfl⟩ := List.mem_map.1 hz
  have := hr r (List.mem_filter.1 h1).1
  unfold okR at this
  simp only
  omega
theorem acr_len (rs : List R4) : (acrR rs).length ≤ rs.length := by rw [acrR, List.length_map]; exact List.length_filter_le _ _
theorem filtmap_take {α β : Type} (p : α → Bool) (f : α → β) (l : List α) (d : α) {n : Nat} (h : n < l.length) : ((l.take (n + 1)).filter p).map f = ((l.take n).filter p).map f ++ if p (l.getD n d) then [f (l.getD n d)] else [] := by
  have hg : l.getD n d = l[n] := by simp [List.getD, h]
  rw [List.take_add_one, List.getElem?_eq_getElem h, hg, Option.toList_some, List.filter_append, List.map_append]
  congr 1
  by_cases hp : p l[n] <;> simp [hp]
theorem turnR_len (rs : List R4) : (turnR rs).length = rs.length := by simp [turnR]
def S24 (ds : List A) : List C := match ds with
  | [.c (.sl _ xs), .c (.sl _ ys)] => [.bool (decide (prs xs = prs ys))]
  | _ => []
def S5 : List A → List C := fun _ => [.bool true]
def tbl24 : FuncId → List A → List C := fun f ds => match f with
  | _ => []
theorem pc24  {x1 : List (List C)} {x2 : List (List C)} {row : List C} (hS : S24 [.c (.sl [.int .i64, .int .i64] x1), .c (.sl [.int .i64, .int .i64] x2)] = row) (h : vc24 (stdE Try.prog tbl24) x1 x2 fun c => c = row) : PCg Try.prog 24 S24 [(false, [.bool])] [.c (.sl [.int .i64, .int .i64] x1), .c (.sl [.int .i64, .int .i64] x2)] := PureC_vc mo h24 (by kernel_rfl) hS (w24  h)
theorem q23 (zs ws : List (Int × Int)) : S24 [sC (rowsP zs), sC (rowsP ws)] = [.bool (decide (zs = ws))] := by
  show [C.bool (decide (prs (rowsP zs) = prs (rowsP ws)))] = _; rw [prs_rowsP, prs_rowsP]
theorem take_ne {α : Type} {l m : List α} (n : Nat) (h : l.take n ≠ m.take n) : l ≠ m := fun e => h (by rw [e])
theorem c23 {zs ws : List (Int × Int)} (hl : zs.length ≤ 1000000) : PCg Try.prog 24 S24 [kB] [sC (rowsP zs), sC (rowsP ws)] := by
  refine pc24 (q23 zs ws) ?_
  unfold vc24
  simp only [stdE, baseE, Br_iff, decide_eq_true_eq, decide_eq_false_iff_not, rowsP_len, rowsP_c0, rowsP_c1]
  refine ⟨fun h => ?_, fun h => ?_⟩
  · have : ¬ zs = ws := fun e => by subst e; simp at h
    simp [this]
  · have hle : zs.length = ws.length := by
      have : (zs.length : Int) = ws.length := by simpa using h
      omega
    refine LoopP1.run (fun n : Nat => (n : Int)) (fun n => n ≤ zs.length ∧ zs.take n = ws.take n) (fun n => zs.length - n) 0 ⟨Nat.zero_le _, rfl⟩ rfl ?_
    rintro n ⟨hn, he⟩ K hK
    rw [toNat_cast]
    refine ⟨fun q => ?_, fun q => ?_⟩
    · have hlt : n < zs.length := Int.ofNat_lt.1 q
      have g1 : zs.getD n (0, 0) = zs[n] := by simp [List.getD, hlt]
      have g2 : ws.getD n (0, 0) = ws[n]'(by omega) := by simp [List.getD, show n < ws.length by omega]
      have t1 : zs.take (n + 1) = zs.take n ++ [zs[n]] := by rw [List.take_add_one, List.getElem?_eq_getElem hlt]; rfl
      have t2 : ws.take (n + 1) = ws.take n ++ [ws[n]'(by omega)] := by rw [List.take_add_one, List.getElem?_eq_getElem (by omega)]; rfl
      rw [g1, g2]
      refine ⟨Int.natCast_nonneg n, by omega, fun w => ?_, fun w => hK _ (n + 1) ⟨hlt, ?_⟩ (by omega) (wrap_up rfl (by omega))⟩
      · have : ¬ zs[n] = ws[n]'(by omega) := fun e => by rw [e] at w; simp at w
        have : zs ≠ ws := take_ne (n + 1) (fun e => this (by rw [t1, t2, he] at e; exact List.singleton_inj.1 (List.append_cancel_left e)))
        simp [this]
      · rw [t1, t2, he, show zs[n] = ws[n]'(by omega) from Prod.ext (by simp at w; exact w.1) (by simp at w; exact w.2)]
    · have : n = zs.length := by omega
      subst this
      rw [List.take_length, hle, List.take_length] at he
      simp [he]
end Go.Proofs.Ytkdapoipnkpbeaa.R
