/- Routes: what is said of them without the reference. No conditions. -/
import Derived.Test.YtljnpioekbdcaaaRouteLaw
set_option linter.unusedVariables false
set_option linter.unusedSimpArgs false
namespace Go.Proofs.Ytljnpioekbdcaaa.V
open Go Go.Eng
set_option maxRecDepth 1000000
set_option maxHeartbeats 1000000
def S25 : List A → List C := fun ds => match ds with
  | [.c (.sl _ xs), .c (.int _ x)] => [.bool (decide (x ∈ prI xs))]
  | _ => []
theorem e25 (w : List Int) (x : Int) : S25 [sI (rowsI w), iC x] = [.bool (decide (x ∈ w))] := by
  show [C.bool (decide (x ∈ prI (rowsI w)))] = _
  rw [prI_rowsI]
def tbl25 : FuncId → List A → List C := fun f ds => match f with
  | _ => []
theorem pc25  {x1 : List (List C)} {x2 : Int} {row : List C} (hS : S25 [.c (.sl [.int .i64] x1), .c (.int .i64 x2)] = row) (h : vc25 (stdE Try.prog tbl25) x1 x2 fun c => c = row) : PCg Try.prog 25 S25 [(false, [.bool])] [.c (.sl [.int .i64] x1), .c (.int .i64 x2)] := PureC_vc mo h25 (by kernel_rfl) hS (w25  h)
theorem p25 {w : List Int} (hw : w.length ≤ 1000000) (x : Int) : PCg Try.prog 25 S25 [kB] [sI (rowsI w), iC x] := by
  refine pc25 (e25 ..) ?_
  unfold vc25
  simp only [stdE, baseE, Br_iff, Imp_iff, tbl25, forall_eq, rowsI_len, rowsI_getD]
  refine find_loop (p := fun j => w.getD j 0 == x) (n := w.length) (A' := fun k => [C.bool true] = [.bool (decide (x ∈ w))]) (B := [C.bool false] = [.bool (decide (x ∈ w))]) (by omega) ?_ ?_ ?_ ?_
  · intro k K hk ha hf
    simp only [decide_eq_true_eq, decide_eq_false_iff_not, toNat_cast]
    refine ⟨fun _ => ⟨by omega, fun h => ha h, fun h => ?_⟩, fun h => by omega⟩
    rw [wrap_up rfl (by omega)]; exact hf h
  · intro K hB
    simp only [decide_eq_true_eq, decide_eq_false_iff_not]
    exact ⟨fun h => by omega, fun _ => hB⟩
  · intro k hk h1 h2
    rw [decide_eq_true (Classical.not_not.1 fun q => by rw [ix_mem.2 q] at h1; omega)]
  · intro h
    rw [decide_eq_false (ix_mem.1 h)]
/-- Lexicographically less. -/
def lx : List Int → List Int → Bool
  | a :: l, b :: m => if a = b then lx l m else decide (a < b)
  | _, _ => false
theorem lx_iff : ∀ (a b : List Int), lx a b = true ↔ lexB a b
  | a :: l, b :: m => by
    rw [lx, lexB]
    by_cases h : a = b
    · rw [if_pos h, lx_iff l m]
      exact ⟨fun q => .inr ⟨h, q⟩, fun q => q.elim (fun q => by omega) fun q => q.2⟩
    · rw [if_neg h]; simp only [decide_eq_true_eq]
      exact ⟨.inl, fun q => q.elim id fun q => absurd q.1 h⟩
  | [], b => by simp [lx, lexB]
  | a :: l, [] => by simp [lx, lexB]
def S27 : List A → List C := fun ds => match ds with
  | [.c (.sl _ a), .c (.sl _ b)] => [.bool (lx (prI a) (prI b))]
  | _ => []
theorem e27 (a b : List Int) : S27 [sI (rowsI a), sI (rowsI b)] = [.bool (lx a b)] := by
  show [C.bool (lx (prI (rowsI a)) (prI (rowsI b)))] = _
  rw [prI_rowsI, prI_rowsI]
def tbl27 : FuncId → List A → List C := fun f ds => match f with
  | _ => []
theorem pc27  {x1 : List (List C)} {x2 : List (List C)} {row : List C} (hS : S27 [.c (.sl [.int .i64] x1), .c (.sl [.int .i64] x2)] = row) (h : vc27 (stdE Try.prog tbl27) x1 x2 fun c => c = row) : PCg Try.prog 27 S27 [(false, [.bool])] [.c (.sl [.int .i64] x1), .c (.sl [.int .i64] x2)] := PureC_vc mo h27 (by kernel_rfl) hS (w27  h)
theorem p27 {a : List Int} (ha : a.length ≤ 1000000) (b : List Int) : PCg Try.prog 27 S27 [kB] [sI (rowsI a), sI (rowsI b)] := by
  refine pc27 (e27 a b) ?_
  unfold vc27
  simp only [stdE, baseE, Br_iff, Imp_iff, tbl27, forall_eq, rowsI_len, rowsI_getD]
  refine LoopP1.run (fun k : Nat => (k : Int)) (fun k => k ≤ a.length ∧ lx (a.drop k) (b.drop k) = lx a b) (fun k => a.length - k) 0 ⟨Nat.zero_le _, rfl⟩ rfl ?_
  rintro k ⟨h1, h2⟩ K hK
  simp only [toNat_cast]
  by_cases q1 : k < a.length
  · by_cases q2 : k < b.length
    · have e : lx (a.drop k) (b.drop k) = if a.getD k 0 = b.getD k 0 then lx (a.drop (k + 1)) (b.drop (k + 1)) else decide (a.getD k 0 < b.getD k 0) := by
        rw [List.drop_eq_getElem_cons q1, List.drop_eq_getElem_cons q2, lx, getD_get q1, getD_get q2]
      rw [if_pos (by simp; omega)]
      refine ⟨fun _ => ⟨by simp, by simp; omega, by simp; omega, fun h3 => ?_, fun h3 => ?_⟩, fun h => by have := of_decide_eq_false h; omega⟩
      · have h3' : ¬ a.getD k 0 = b.getD k 0 := by simpa using h3
        rw [if_neg h3'] at e
        rw [← h2, e]
      · have h3' : a.getD k 0 = b.getD k 0 := by simpa using h3
        rw [if_pos h3'] at e
        exact hK _ (k + 1) ⟨by omega, by rw [← e]; exact h2⟩ (by omega) (wrap_up rfl (by omega))
    · rw [if_pos (by simp; omega)]
      refine ⟨fun h => by have := of_decide_eq_true h; omega, fun _ => ?_⟩
      rw [← h2, List.drop_of_length_le (l := b) (by omega)]
      cases a.drop k <;> rfl
  · rw [if_neg (by simp; omega)]
    refine ⟨fun h => (by cases h), fun _ => ?_⟩
    rw [← h2, List.drop_of_length_le (l := a) (by omega)]
    rfl
/-! ### The route is the best one -/
theorem lft_lt {w : List Int} (h : w.Nodup) : (lft w).Pairwise (· < ·) := by
  have h1 := (ms_sorted w).filter fun z => !(z == w.getD 0 0)
  have h2 : (lft w).Nodup := ((ms_perm w).nodup_iff.2 h).filter _
  rw [List.nodup_iff_pairwise_ne] at h2
  exact List.Pairwise.imp (fun {x y} h => by have q1 := h.1; have q2 := h.2; omega) (List.Pairwise.and h1 h2)
theorem rtE_ok {g : List (List C)} {k : Int} {w : List Int} (h : rtE g k w = 0) : chkE g k = 0 ∧ w.length ≤ 8 ∧ ixF w.length (outW g.length w) 0 = -1 ∧ w.Nodup := by
  unfold rtE at h
  split at h
  · rename_i q; exact absurd h q
  · rename_i q1
    split at h
    · cases h
    · split at h
      · cases h
      · split at h
        · exact ⟨Classical.not_not.1 q1, by omega, by omega, by assumption⟩
        · cases h
/-- What is said of the route. -/
theorem rt_best {g : List (List C)} {k : Int} {w : List Int} (h : rtE g k w = 0) : okG g ∧ inG g w ∧ (rtL g k w).Perm w ∧ (rtL g k w).getD 0 0 = w.getD 0 0 ∧
    ∀ o : List Int, o.Perm w → o.getD 0 0 = w.getD 0 0 → lenL g (rtL g k w) ≤ lenL g o ∧ (lenL g o = lenL g (rtL g k w) → lx o (rtL g k w) = false) := by
  obtain ⟨h1, h8, h2, h3⟩ := rtE_ok h
  have hg := chk_okG h1
  have hi := out_in h2
  cases w with
  | nil =>
    have : rtL g k [] = [] := by rw [rtL, if_neg (fun q => q.2 rfl)]
    rw [this]
    refine ⟨hg, hi, List.Perm.refl _, rfl, fun o ho _ => ?_⟩
    rw [List.perm_nil.1 ho]
    exact ⟨Int.le_refl _, fun _ => rfl⟩
  | cons a t =>
    have hp := lft_perm h3
    have e : rtL g k (a :: t) = best g (lft (a :: t)).length [a] (lft (a :: t)) := by rw [rtL, if_pos ⟨h, by simp⟩]; rfl
    obtain ⟨r, er, hr, hmin⟩ := best_spec (g := g) (lft (a :: t)).length [a] (lft (a :: t)) rfl (by simp)
    refine ⟨hg, hi, ?_, ?_, fun o ho ho0 => ?_⟩
    · rw [e, er]; exact (hr.trans hp).cons a
    · rw [e, er]; rfl
    · match o, ho, ho0 with
      | [], ho, _ => have := ho.length_eq; simp at this
      | b :: o, ho, ho0 =>
        simp only [List.getD_cons_zero] at ho0
        subst ho0
        have hot : o.Perm (lft (b :: t)) := ho.cons_inv.trans hp.symm
        rw [e, er]
        refine ⟨hmin o hot, fun q => ?_⟩
        have := best_lex (g := g) (lft (b :: t)).length [b] (lft (b :: t)) rfl (by simp) (lft_lt h3) o hot (by rw [er]; exact q)
        rw [er, ← lx_iff] at this
        simpa using this
/-- Two elements change places. -/
def swp (o : List Int) (i j : Nat) : List Int := (o.set i (o.getD j 0)).set j (o.getD i 0)
theorem swp_perm {o : List Int} {i j : Nat} (hi : i < o.length) (hj : j < o.length) : (swp o i j).Perm o := by
  unfold swp
  rw [getD_get hi, getD_get hj]
  exact List.set_set_perm hi hj
theorem swp_head {o : List Int} {i j : Nat} (hi : 1 ≤ i) (hj : 1 ≤ j) : (swp o i j).getD 0 0 = o.getD 0 0 := by
  unfold swp
  simp only [List.getD_eq_getElem?_getD]
  rw [List.getElem?_set_ne (by omega), List.getElem?_set_ne (by omega)]
/-- The place that a number stands for. -/
def plc (z : Int) (n : Nat) : Int := 1 + ((z.tmod ((n : Int) - 1)) + ((n : Int) - 1)).tmod ((n : Int) - 1)
theorem plc_ok (z : Int) {n : Nat} (h : 1 < n) : 1 ≤ plc z n ∧ plc z n < n ∧ -((n : Int) - 1) < z.tmod ((n : Int) - 1) ∧ z.tmod ((n : Int) - 1) < (n : Int) - 1 := by
  have hn : (0 : Int) < (n : Int) - 1 := by omega
  have h1 : z.tmod ((n : Int) - 1) < (n : Int) - 1 := Int.tmod_lt_of_pos z hn
  have h2 : -((n : Int) - 1) < z.tmod ((n : Int) - 1) := by
    have := Int.lt_tmod_of_pos z hn
    omega
  have h3 := Int.tmod_lt_of_pos (z.tmod ((n : Int) - 1) + ((n : Int) - 1)) hn
  have h4 := Int.tmod_nonneg (b := (n : Int) - 1) (show 0 ≤ z.tmod ((n : Int) - 1) + ((n : Int) - 1) by omega)
  unfold plc
  omega
def S8 : List A → List C := fun _ => [.bool true]
def tbl8 : FuncId → List A → List C := fun f ds => match f with
  | 10 => S10 ds
  | 11 => S11 ds
  | 13 => S13 ds
  | 22 => S22 ds
  | 25 => S25 ds
  | 26 => S26 ds
  | 27 => S27 ds
  | _ => []
theorem pc8  {x1 : List (List C)} {x2 : Int} {x3 : List (List C)} {x4 : List (List C)} {row : List C} (hS : S8 [.c (.sl [.str, .int .i64, .int .i64, .int .i64, .int .i64, .int .i64, .sl [.int .i64], .int .i64] x1), .c (.int .i64 x2), .c (.sl [.int .i64] x3), .c (.sl [.int .i64] x4)] = row) (h : vc8 (stdE Try.prog tbl8) x1 x2 x3 x4 fun c => c = row) : PCg Try.prog 8 S8 [(false, [.bool])] [.c (.sl [.str, .int .i64, .int .i64, .int .i64, .int .i64, .int .i64, .sl [.int .i64], .int .i64] x1), .c (.int .i64 x2), .c (.sl [.int .i64] x3), .c (.sl [.int .i64] x4)] := PureC_vc mo h8 (by kernel_rfl) hS (w8  h)
theorem p8 (g : List (List C)) (k : Int) (w ts : List Int) : PureC Try.prog 8 [kB] [sG g, iC k, sI (rowsI w), sI (rowsI ts)] fun _ => .bool true := by
  refine PureC.one (get := fun i => (S8 [sG g, iC k, sI (rowsI w), sI (rowsI ts)]).getD i .nil) (pc8 (row := [.bool true]) rfl ?_) rfl
  unfold vc8
  simp only [stdE, baseE, Br_iff, Imp_iff, tbl8, forall_eq, rowsI_len, rowsI_getD]
  simp only [p11, p10, implies_true, true_and]
  simp only [e11, e10, List.getD_cons_zero, gb_bool]
  refine ⟨fun _ => trivial, fun hl => ?_⟩
  have hl1 : lightB g = true := by
    cases h : lightB g with
    | true => rfl
    | false => simp [h] at hl
  have hw : w.length ≤ 20 := by
    apply Classical.byContradiction
    intro q
    simp [hl1, show (20 : Int) < w.length by omega] at hl
  have ht : ts.length ≤ 20 := by
    apply Classical.byContradiction
    intro q
    simp [hl1, show (20 : Int) < ts.length by omega] at hl
  clear hl
  have hr := (light_spec hl1).2
  simp only [p22 hr, p13 hr, implies_true, true_and]
  simp only [e22, e13, List.getD_cons_zero, List.getD_cons_succ, gi_int, gl_sl, rowsI_len, rowsI_getD]
  obtain ⟨x, hx⟩ : ∃ x, rtL g k w = x := ⟨_, rfl⟩
  refine ⟨fun h1 => ?_, fun h1 => ?_⟩
  · have h1' : rtE g k w ≠ 0 := by simpa using h1
    have : x = [] := by rw [← hx, rtL, if_neg (fun q => h1' q.1)]
    rw [hx, this]; simp
  have hE : rtE g k w = 0 := by simpa using h1
  obtain ⟨hg, hi, hperm, hhead, hmin⟩ := rt_best hE
  obtain ⟨hc, h8, _, hnd⟩ := rtE_ok hE
  rw [hx] at hperm hhead hmin ⊢
  have hxl : x.length = w.length := hperm.length_eq
  have hix : inG g x := fun z hz => hi z (hperm.subset hz)
  have hgate : (if (if (!((x.length : Int) == (w.length : Int))) = true then true else if decide (0 < (x.length : Int)) = true then !(x.getD (Int.toNat 0) 0 == w.getD (Int.toNat 0) 0) else false) = true then true else !(chkE g k == 0)) = false := by
    rw [hxl, hc, Int.toNat_zero, hhead]; simp
  refine ⟨fun _ => by simp, fun h => by simp at h ⊢; omega, fun h => by simp at h ⊢; omega, fun a b => by simp at a b ⊢; omega, fun h => ?_, fun _ => ?_⟩
  · rw [hgate] at h; cases h
  have hpx : ∀ z, PCg Try.prog 25 S25 [kB] [sI (rowsI x), iC z] := fun z => p25 (by omega) z
  refine LoopP1.run (fun n : Nat => (n : Int)) (fun n => n ≤ w.length) (fun n => w.length - n) 0 (Nat.zero_le _) rfl ?_
  intro n hn K hK
  simp only [toNat_cast]
  refine ⟨fun h2 => ?_, fun h2 => ?_⟩
  · have hlt : n < w.length := by simp at h2; omega
    have i1 := hi _ (getD_mem (d := 0) hlt)
    have i2 := hix _ (getD_mem (d := 0) (show n < x.length by omega))
    have hmem : decide (w.getD n 0 ∈ x) = true := decide_eq_true (hperm.symm.subset (getD_mem hlt))
    refine ⟨by simp, fun _ => hpx _, ?_⟩
    simp only [e25, List.getD_cons_zero, gb_bool, hmem]
    have f1 : decide (w.getD n 0 < 0) = false := decide_eq_false (by omega)
    have f2 : decide ((g.length : Int) ≤ w.getD n 0) = false := decide_eq_false (by omega)
    have f3 : decide (x.getD n 0 < 0) = false := decide_eq_false (by omega)
    have f4 : decide ((g.length : Int) ≤ x.getD n 0) = false := decide_eq_false (by omega)
    have f5 : decide ((n : Int) < (x.length : Int)) = true := decide_eq_true (by omega)
    simp only [f1, f2, f3, f4, f5]
    refine ⟨fun _ => trivial, fun _ => trivial, fun h => by simp at h, fun _ => hK _ (n + 1) (by omega) (by omega) (wrap_up rfl (by omega))⟩
  refine ⟨by simp; omega, ?_⟩
  rw [List.nil_append]
  refine LoopP2.run (fun p : List Int × Nat => rowsI p.1) (fun p => (p.2 : Int)) (fun p => p.1.Perm w ∧ p.1.getD 0 0 = w.getD 0 0 ∧ p.2 ≤ ts.length) (fun p => ts.length - p.2) (w, 0) ⟨List.Perm.refl _, rfl, Nat.zero_le _⟩ rfl rfl ?_
  rintro ⟨o, i⟩ ⟨ho1, ho2, hit⟩ K2 hK2
  dsimp only at ho1 ho2 hit ⊢
  have hol : o.length = w.length := ho1.length_eq
  simp only [rowsI_len, rowsI_getD]
  refine ⟨fun h3 => ?_, fun h3 => ?_⟩
  · rw [wrap_up rfl (by omega)] at h3
    have hi1 : i + 1 < ts.length := by
      apply Classical.byContradiction
      intro q
      rw [if_neg (by simp; omega)] at h3; cases h3
    rw [if_pos (by simp; omega)] at h3
    have ho3 : 1 < o.length := by have := of_decide_eq_true h3; omega
    have ew : IntKind.i64.wrap ((o.length : Int) - 1) = (o.length : Int) - 1 := wrap_in (by omega) (by omega)
    have wp : ∀ z : Int, IntKind.i64.wrap (1 + (IntKind.i64.wrap (z.tmod ((o.length : Int) - 1) + ((o.length : Int) - 1))).tmod ((o.length : Int) - 1)) = plc z o.length := fun z => by
      obtain ⟨p1, p2, p3, p4⟩ := plc_ok z ho3
      rw [wrap_in (n := z.tmod ((o.length : Int) - 1) + ((o.length : Int) - 1)) (by omega) (by omega)]
      show IntKind.i64.wrap (plc z o.length) = _
      rw [wrap_in (by omega) (by omega)]
    rw [wrap_up rfl (by omega)]
    simp only [ew, wp, rowsI_getD, rowsI_upd, rowsI_len, List.length_set, toNat_cast]
    obtain ⟨a1, a2, _⟩ := plc_ok (ts.getD i 0) ho3
    obtain ⟨b1, b2, _⟩ := plc_ok (ts.getD (i + 1) 0) ho3
    have d1 : decide (0 ≤ plc (ts.getD i 0) o.length) = true := decide_eq_true (by omega)
    have d2 : decide (plc (ts.getD i 0) o.length < (o.length : Int)) = true := decide_eq_true (by omega)
    have d3 : decide (0 ≤ plc (ts.getD (i + 1) 0) o.length) = true := decide_eq_true (by omega)
    have d4 : decide (plc (ts.getD (i + 1) 0) o.length < (o.length : Int)) = true := decide_eq_true (by omega)
    refine ⟨by simp, by simp; omega, by simp; omega, by simp; omega, by simp; omega, d3, d4, d1, d2, d4, ?_⟩
    exact hK2 _ _ (swp o (plc (ts.getD i 0) o.length).toNat (plc (ts.getD (i + 1) 0) o.length).toNat, i + 1) ⟨(swp_perm (by omega) (by omega)).trans ho1, (swp_head (by omega) (by omega)).trans ho2, by dsimp only; omega⟩ (by dsimp only; omega) rfl rfl
  · have hio : inG g o := fun z hz => hi z (ho1.subset hz)
    obtain ⟨m1, m2⟩ := hmin o ho1 ho2
    simp only [p26 hg hio (by omega), p26 hg hix (by omega), true_and]
    simp only [e26, List.getD_cons_zero, gi_int]
    refine ⟨fun h4 => by have := of_decide_eq_true h4; omega, fun h4 => ⟨fun _ => p27 (by omega) x, ?_⟩⟩
    simp only [e27, List.getD_cons_zero, gb_bool]
    by_cases q : lenL g x < lenL g o
    · simp [q]
    · have := m2 (by omega)
      simp [q, this]
end Go.Proofs.Ytljnpioekbdcaaa.V
