/- Ledgers: a posting is posted, in the program and in the reference. No conditions. -/
import Derived.Test.YtlmllogbaacoeaaPostP
set_option linter.unusedVariables false
set_option linter.unusedSimpArgs false
namespace Go.Proofs.Ytlmllogbaacoeaa.V
open Go Go.Eng
set_option maxRecDepth 1000000
set_option maxHeartbeats 1000000
theorem chk_ok {p : PT} (h : chkP p = 0) : 1 ≤ p.1 ∧ p.1 ≤ 1000000 ∧ 0 ≤ p.2.1 ∧ p.2.1 ≤ 2147483647 ∧ 2 ≤ p.2.2.length ∧ p.2.2.length ≤ 16 ∧ p.2.2.any badI = false ∧ sumTo (amt p.2.2) p.2.2.length = 0 := by
  unfold chkP at h
  split at h
  · omega
  split at h
  · omega
  split at h
  · omega
  split at h
  · omega
  split at h
  · omega
  rename_i h1 h2 h3 h4 h5
  exact ⟨by omega, by omega, by omega, by omega, by omega, by omega, by simpa using h4, by omega⟩
theorem bad_none {its : List I2} (h : its.any badI = false) {i : Nat} (hi : i < its.length) : badI (its.getD i z2) = false := by
  rw [List.any_eq_false] at h
  have := h _ (List.getElem_mem hi)
  rw [getD_get hi]
  simpa using this
theorem chk_amt {p : PT} (h : chkP p = 0) : ∀ i, i < p.2.2.length → -1000000000000 ≤ amt p.2.2 i ∧ amt p.2.2 i ≤ 1000000000000 := fun i hi => by
  have := good_amt (bad_none (chk_ok h).2.2.2.2.2.2.1 hi)
  exact ⟨this.2.2.2.1, this.2.2.2.2⟩
theorem amtK_b {p : PT} (h : chkP p = 0) (k : Int) : -16000000000000 ≤ amtK p.2.2 k ∧ amtK p.2.2 k ≤ 16000000000000 := by
  have h1 := itemK_b (chk_amt h) k (Nat.le_refl _)
  have h2 := (chk_ok h).2.2.2.2.2.1
  unfold amtK
  omega
theorem zP_chk : amtK zP.2.2 = fun _ => 0 := funext fun k => rfl
theorem postK_b {ps : List PT} (h : ∀ p ∈ ps, chkP p = 0) (k t : Int) (j : Nat) : -16000000000000 ≤ postK ps k t j ∧ postK ps k t j ≤ 16000000000000 := by
  unfold postK
  split
  · by_cases hj : j < ps.length
    · have := amtK_b (h _ (List.getElem_mem hj)) k
      rwa [getD_get hj]
    · have e : ps.getD j zP = zP := by simp [List.getD, Nat.le_of_not_lt hj]
      rw [e, zP_chk]; simp
  · simp
theorem bal_b {ps : List PT} (h : ∀ p ∈ ps, chkP p = 0) (hl : ps.length ≤ 513) (k t : Int) : -9000000000000000 ≤ balT ps k t ∧ balT ps k t ≤ 9000000000000000 := by
  have := sumTo_abs (f := postK ps k t) (b := 16000000000000) (n := ps.length) fun i _ => postK_b h k t i
  unfold balT
  omega
theorem balT_app (ps : List PT) (p : PT) (k t : Int) : balT (ps ++ [p]) k t = balT ps k t + if p.2.1 ≤ t then amtK p.2.2 k else 0 := by
  unfold balT
  rw [List.length_append, List.length_singleton, sumTo]
  congr 1
  · refine sumTo_congr fun i hi => ?_
    unfold postK
    rw [show (ps ++ [p]).getD i zP = ps.getD i zP by simp [List.getD, List.getElem?_append_left hi]]
  · unfold postK
    rw [show (ps ++ [p]).getD ps.length zP = p by simp [List.getD]]
theorem bal_app (ps : List PT) {p : PT} (h : chkP p = 0) (k : Int) : bal (ps ++ [p]) k = bal ps k + amtK p.2.2 k := by
  show balT (ps ++ [p]) k 2147483647 = _
  rw [balT_app, if_pos (chk_ok h).2.2.2.1]
theorem ix_any {α : Type} (l : List α) (z : α) (q : α → Bool) : decide (0 ≤ ixF l.length (fun j => q (l.getD j z)) 0) = l.any q := by
  rcases ixF_spec l.length (fun j => q (l.getD j z)) _ 0 rfl with ⟨h1, h2⟩ | ⟨m, h1, h2, h3, h4, h5⟩
  · rw [h1]
    have : l.any q = false := by
      rw [List.any_eq_false]
      intro x hx
      obtain ⟨i, hi, rfl⟩ := List.mem_iff_getElem.1 hx
      have := h2 i (Nat.zero_le _) hi
      rw [getD_get hi] at this
      simp [this]
    rw [this]; rfl
  · rw [h3]
    have : l.any q = true := by
      rw [List.any_eq_true]
      exact ⟨l[m], List.getElem_mem h2, by rwa [getD_get h2] at h4⟩
    rw [this]; simp
/-! ### The reference's balances -/
def S43 : List A → List C := fun ds => match ds with
  | [.c (.sl _ xs), .c (.int _ k), .c (.int _ t)] => [.int .i64 (balT (unP xs) k t)]
  | _ => []
theorem e43 (ps : List PT) (k t : Int) : S43 [sP (rowsP ps), iC k, iC t] = [.int .i64 (balT ps k t)] := by
  show [C.int .i64 (balT (unP (rowsP ps)) k t)] = _
  rw [unP_rows]
def tbl43 : FuncId → List A → List C := fun f ds => match f with
  | _ => []
theorem pc43  {x1 : List (List C)} {x2 : Int} {x3 : Int} {row : List C} (hS : S43 [.c (.sl [.int .i64, .int .i64, .sl [.int .i64, .int .i64]] x1), .c (.int .i64 x2), .c (.int .i64 x3)] = row) (h : vc43 (stdE Try.prog tbl43) x1 x2 x3 fun c => c = row) : PCg Try.prog 43 S43 [(false, [.int .i64])] [.c (.sl [.int .i64, .int .i64, .sl [.int .i64, .int .i64]] x1), .c (.int .i64 x2), .c (.int .i64 x3)] := PureC_vc mo h43 (by kernel_rfl) hS (w43  h)
theorem p43 {ps : List PT} (hv : ∀ p ∈ ps, chkP p = 0) (hl : ps.length ≤ 513) (k t : Int) : PCg Try.prog 43 S43 [kI] [sP (rowsP ps), iC k, iC t] := by
  refine pc43 (e43 ..) ?_
  unfold vc43
  simp only [stdE, baseE, Br_iff, Imp_iff, bite_and, rowsP_len]
  simp only [Bool.and_eq_true, Bool.and_eq_false_iff, decide_eq_true_eq, decide_eq_false_iff_not, beq_iff_eq, beq_eq_false_iff_ne]
  refine LoopP2.run (fun j : Nat => sumTo (postK ps k t) j) (fun j => (j : Int)) (fun j => j ≤ ps.length) (fun j => ps.length - j) 0 (Nat.zero_le _) rfl rfl ?_
  intro j hj K hK
  simp only [toNat_cast, rowsP_c1, rowsP_c2, row2_len]
  refine ⟨fun h => ?_, fun h => ?_⟩
  · obtain ⟨p, hp⟩ : ∃ p, ps.getD j zP = p := ⟨_, rfl⟩
    have hpv : chkP p = 0 := by
      rw [← hp, getD_get (show j < ps.length by omega)]
      exact hv _ (List.getElem_mem _)
    have hb := sumTo_abs (f := postK ps k t) (b := 16000000000000) (n := j) fun i _ => postK_b hv k t i
    have ho := chk_ok hpv
    have ep : postK ps k t j = if p.2.1 ≤ t then amtK p.2.2 k else 0 := by unfold postK; rw [hp]
    rw [hp]
    refine LoopP2.run (fun n : Nat => sumTo (postK ps k t) j + if p.2.1 ≤ t then sumTo (itemK p.2.2 k) n else 0) (fun n => (n : Int)) (fun n => n ≤ p.2.2.length) (fun n => p.2.2.length - n) 0 (Nat.zero_le _) (by simp [sumTo]) rfl ?_
    intro n hn K2 hK2
    simp only [toNat_cast, row2_c0, row2_c1, amt_fold, acc_fold]
    have hi := itemK_b (chk_amt hpv) k hn
    refine ⟨by omega, fun h2 => ⟨fun _ => by omega, fun h3 => ⟨by omega, ?_⟩, fun h3 => ?_⟩, fun h2 => ?_⟩
    · have ha := chk_amt hpv n (by omega)
      refine hK2 _ _ (n + 1) (by omega) (by omega) ?_ (wrap_up rfl (by omega))
      rw [if_pos h3.1, if_pos h3.1, sumTo, show itemK p.2.2 k n = amt p.2.2 n by unfold itemK; rw [if_pos h3.2]]
      rw [wrap_in (by omega) (by omega)]
      omega
    · refine hK2 _ _ (n + 1) (by omega) (by omega) ?_ (wrap_up rfl (by omega))
      by_cases h4 : p.2.1 ≤ t
      · have h5 : ¬ acc p.2.2 n = k := by
          rcases h3 with h3 | h3
          · exact absurd h4 h3
          · exact h3
        rw [if_pos h4, if_pos h4, sumTo, show itemK p.2.2 k n = 0 by unfold itemK; rw [if_neg h5]]
        omega
      · rw [if_neg h4, if_neg h4]
    · have e : n = p.2.2.length := by omega
      subst e
      refine hK _ _ (j + 1) (by omega) (by omega) ?_ (wrap_up rfl (by omega))
      rw [sumTo, ep]
      rfl
  · have e : j = ps.length := by omega
    subst e
    rfl
def S42 : List A → List C := fun ds => match ds with
  | [.c (.sl _ xs), .c (.int _ k)] => [.int .i64 (bal (unP xs) k)]
  | _ => []
theorem e42 (ps : List PT) (k : Int) : S42 [sP (rowsP ps), iC k] = [.int .i64 (bal ps k)] := by
  show [C.int .i64 (bal (unP (rowsP ps)) k)] = _
  rw [unP_rows]
def tbl42 : FuncId → List A → List C := fun f ds => match f with
  | 43 => S43 ds
  | _ => []
theorem pc42  {x1 : List (List C)} {x2 : Int} {row : List C} (hS : S42 [.c (.sl [.int .i64, .int .i64, .sl [.int .i64, .int .i64]] x1), .c (.int .i64 x2)] = row) (h : vc42 (stdE Try.prog tbl42) x1 x2 fun c => c = row) : PCg Try.prog 42 S42 [(false, [.int .i64])] [.c (.sl [.int .i64, .int .i64, .sl [.int .i64, .int .i64]] x1), .c (.int .i64 x2)] := PureC_vc mo h42 (by kernel_rfl) hS (w42  h)
theorem p42 {ps : List PT} (hv : ∀ p ∈ ps, chkP p = 0) (hl : ps.length ≤ 513) (k : Int) : PCg Try.prog 42 S42 [kI] [sP (rowsP ps), iC k] := by
  refine pc42 (e42 ..) ?_
  unfold vc42
  simp only [stdE, baseE, tbl42, forall_eq]
  simp only [p43 hv hl, true_and]
  simp only [e43, List.getD_cons_zero, gi_int]
/-! ### The reference's Post -/
def ovI (ps : List PT) (p : PT) (x : I2) : Bool := decide (bal (ps ++ [p]) x.1 < -1000000000000 ∨ 1000000000000 < bal (ps ++ [p]) x.1)
theorem ovf_any (ps : List PT) (p : PT) : ovfB ps p = p.2.2.any (ovI ps p) := rfl
theorem late_iff (ps : List PT) (t : Int) (hl : ps.length ≤ 1000000) : (decide ((0 : Int) < ps.length) && decide (t < (ps.getD (IntKind.i64.wrap ((ps.length : Int) - 1)).toNat zP).2.1)) = lateB ps t := by
  unfold lateB
  by_cases h : 0 < ps.length
  · have e : IntKind.i64.wrap ((ps.length : Int) - 1) = ((ps.length - 1 : Nat) : Int) := by rw [wrap_in (by omega) (by omega)]; omega
    rw [e, toNat_cast]
    simp [h]
  · have h' : ¬ (0 : Int) < ps.length := by omega
    simp [h, h']
theorem postE_ok {ps : List PT} {p : PT} (h : chkP p = 0) : postE ps p = if dupB ps p.1 = true then 6 else if lateB ps p.2.1 = true then 9 else if ovfB ps p = true then 2 else if 512 ≤ ps.length then 8 else 0 := by
  unfold postE
  rw [if_neg (by simp [h])]
theorem dup_or (ps : List PT) (n : Int) {β : Prop} (h : (∀ {R T : Prop}, (dupB ps n = true → R) → (dupB ps n = false → T) → R ∨ T) → β) : β := h fun hr ht => by
  cases e : dupB ps n with
  | true => exact .inl (hr e)
  | false => exact .inr (ht e)
theorem dup_of {ps : List PT} {n : Int} {k : Nat} (h : ixF ps.length (isP ps n) 0 = k) : dupB ps n = true := by rw [← ix_dup, h]; simp
theorem dup_no {ps : List PT} {n : Int} (h : ixF ps.length (isP ps n) 0 = -1) : dupB ps n = false := by rw [← ix_dup, h]; rfl
def isO (ps : List PT) (p : PT) (i : Nat) : Bool := ovI ps p (p.2.2.getD i z2)
theorem ovf_of {ps : List PT} {p : PT} {k : Nat} (h : ixF p.2.2.length (isO ps p) 0 = k) : ovfB ps p = true := by
  rw [ovf_any, ← ix_any p.2.2 z2]
  show decide (0 ≤ ixF p.2.2.length (isO ps p) 0) = true
  rw [h]; simp
theorem ovf_no {ps : List PT} {p : PT} (h : ixF p.2.2.length (isO ps p) 0 = -1) : ovfB ps p = false := by
  rw [ovf_any, ← ix_any p.2.2 z2]
  show decide (0 ≤ ixF p.2.2.length (isO ps p) 0) = false
  rw [h]; rfl
theorem isO_iff (ps : List PT) (p : PT) (i : Nat) : isO ps p i = (decide (bal (ps ++ [p]) (acc p.2.2 i) < -1000000000000) || decide (1000000000000 < bal (ps ++ [p]) (acc p.2.2 i))) := by
  show decide (_ ∨ _) = _
  rw [Bool.decide_or]
  rfl
def postR (ps : List PT) (p : PT) : List C := [.sl PL (rowsP (next ps p)), .int .i64 (postE ps p)]
def S38 : List A → List C := fun ds => match ds with
  | [.c (.sl _ xs), .agg [.c (.int _ a), .c (.int _ b), .c (.sl _ c)]] => postR (unP xs) (a, b, un2 c)
  | _ => []
theorem e38 (ps : List PT) (a b : Int) (its : List I2) : S38 [sP (rowsP ps), poA a b (row2 its)] = postR ps (a, b, its) := by
  show postR (unP (rowsP ps)) (a, b, un2 (row2 its)) = _
  rw [unP_rows, un2_row]
abbrev kSP : Bool × List LK := (false, [.sl PL])
theorem postR_err {ps : List PT} {p : PT} {e : Int} (he : postE ps p = e) (hne : e ≠ 0) : [C.sl PL (rowsP ps), .int .i64 e] = postR ps p := by
  unfold postR next
  rw [if_neg (by rw [he]; exact hne), he]
theorem postR_new {ps : List PT} {p : PT} (he : postE ps p = 0) : [C.sl PL (rowsP (ps ++ [p])), .int .i64 0] = postR ps p := by
  unfold postR next
  rw [if_pos he, he]
def tbl38 : FuncId → List A → List C := fun f ds => match f with
  | 14 => S14 ds
  | 42 => S42 ds
  | _ => []
theorem pc38  {x1 : List (List C)} {x2 : Int} {x3 : Int} {x4 : List (List C)} {row : List C} (hS : S38 [.c (.sl [.int .i64, .int .i64, .sl [.int .i64, .int .i64]] x1), .agg [.c (.int .i64 x2), .c (.int .i64 x3), .c (.sl [.int .i64, .int .i64] x4)]] = row) (h : vc38 (stdE Try.prog tbl38) x1 x2 x3 x4 fun c => c = row) : PCg Try.prog 38 S38 [(false, [.sl [.int .i64, .int .i64, .sl [.int .i64, .int .i64]]]), (false, [.int .i64])] [.c (.sl [.int .i64, .int .i64, .sl [.int .i64, .int .i64]] x1), .agg [.c (.int .i64 x2), .c (.int .i64 x3), .c (.sl [.int .i64, .int .i64] x4)]] := PureC_vc mo h38 (by kernel_rfl) hS (w38  h)
theorem p38 {ps : List PT} (hv : ∀ p ∈ ps, chkP p = 0) (hl : ps.length ≤ 512) (a b : Int) (its : List I2) : PCg Try.prog 38 S38 [kSP, kI] [sP (rowsP ps), poA a b (row2 its)] := by
  refine pc38 (e38 ..) ?_
  obtain ⟨p, hp⟩ : ∃ p : PT, p = (a, b, its) := ⟨_, rfl⟩
  have er : rowsP ps ++ [[C.int .i64 a, .int .i64 b, .sl L2 (row2 its)]] = rowsP (ps ++ [p]) := by rw [rowsP_app, hp]; rfl
  unfold vc38
  simp only [stdE, baseE, Br_iff, Imp_iff, bite_and, bite_or, rowsP_len, row2_len, tbl38, forall_eq, List.nil_append, er, rowsP_c1, late_iff ps _ (show ps.length ≤ 1000000 by omega)]
  simp only [p14, true_and]
  simp only [e14, List.getD_cons_zero, gi_int, ← hp, Bool.not_eq_true', Bool.not_eq_false', beq_iff_eq, beq_eq_false_iff_ne]
  refine ⟨fun h => postR_err (by unfold postE; rw [if_pos h]) h, fun h => ?_⟩
  have hv2 : ∀ q ∈ ps ++ [p], chkP q = 0 := fun q hq => by
    rcases List.mem_append.1 hq with hq | hq
    · exact hv q hq
    · rw [List.mem_singleton.1 hq]; exact h
  have ho := chk_ok h
  have hi : its = p.2.2 := by rw [hp]
  have hc := p42 hv2 (by simp; omega)
  simp only [hc, true_and]
  simp only [e42, List.getD_cons_zero, gi_int, rowsP_c0]
  have e1 : a = p.1 := by rw [hp]
  have e2 : b = p.2.1 := by rw [hp]
  rw [e1, e2]
  clear er hc
  rw [hi]
  clear hp e1 e2 hi
  have he := postE_ok (ps := ps) h
  have l0 : (([] : List (List C)).length : Int) = 0 := rfl
  have l1 : ∀ r : List C, (([r] : List (List C)).length : Int) = 1 := fun _ => rfl
  simp only [l0, l1]
  refine find_loop (p := isP ps p.1) (n := ps.length) (A' := fun k => dupB ps p.1 = true) (B := dupB ps p.1 = false) (by omega) ?_ ?_ (fun k hk h1 h2 => dup_of h1) dup_no
  · intro k K hk ha hf
    simp only [toNat_cast, decide_eq_true_eq, decide_eq_false_iff_not]
    refine ⟨fun _ => ⟨by omega, fun hd => ?_, fun hd => ?_⟩, fun h => by omega⟩
    · refine postR_err ?_ (by decide)
      rw [he, if_pos (ha (by unfold isP; simpa using hd))]
    · rw [wrap_up rfl (by omega)]
      exact hf (by unfold isP; simpa using hd)
  intro K hd
  rw [if_neg (by simp [hd])] at he
  simp only [decide_eq_true_eq, decide_eq_false_iff_not]
  refine ⟨fun h => by omega, fun _ => ⟨fun h3 => by rw [wrap_in (by omega) (by omega)]; omega, fun h3 => by rw [wrap_in (by omega) (by omega)]; omega, fun h4 => ?_, fun h4 => ?_⟩⟩
  · refine postR_err ?_ (by decide)
    rw [he, if_pos h4]
  rw [if_neg (by simp [h4])] at he
  refine ⟨by omega, by omega, ?_⟩
  refine find_loop (p := isO ps p) (n := p.2.2.length) (A' := fun k => ovfB ps p = true) (B := ovfB ps p = false) (by omega) ?_ ?_ (fun k hk h1 h2 => ovf_of h1) ovf_no
  · intro k K hk ha hf
    simp only [toNat_cast, row2_c0, acc_fold, decide_eq_true_eq, decide_eq_false_iff_not, ← isO_iff]
    refine ⟨fun _ => ⟨by omega, fun hd => ?_, fun hd => ?_⟩, fun h => by omega⟩
    · refine postR_err ?_ (by decide)
      rw [he, if_pos (ha hd)]
    · rw [wrap_up rfl (by omega)]
      exact hf hd
  intro K hd
  rw [if_neg (by simp [hd])] at he
  refine ⟨fun h => by omega, fun _ => ⟨fun h5 => ?_, fun h5 => ?_⟩⟩
  · refine postR_err ?_ (by decide)
    rw [he, if_pos (by omega)]
  · refine postR_new ?_
    rw [he, if_neg (by omega)]
def tbl19 : FuncId → List A → List C := fun f ds => match f with
  | 38 => S38 ds
  | _ => []
theorem ac19 {x1 : List (List C)} {x3 : Int} {x4 : Int} {x5 : List (List C)}  {Q0 : (List (List C)) → (Int) → Prop} (h : vc19 (stdE Try.prog tbl19) x1 x3 x4 x5 Q0) : ACalls Try.prog 19 [.ptr 0 0, .agg [.c (.int .i64 x3), .c (.int .i64 x4), .c (.sl [.int .i64, .int .i64] x5)]] [.box 56 [.c (.sl [.int .i64, .int .i64, .sl [.int .i64, .int .i64]] x1)]] fun r H' => (∃ l1 : List (List C), ∃ i2 : Int, Q0 l1 i2 ∧ r = .c (.int .i64 i2) ∧ H' = [.box 56 [.c (.sl [.int .i64, .int .i64, .sl [.int .i64, .int .i64]] l1)]]) := ACalls_vc mo h19 (w19  h)
theorem c19 : RPostC Try.prog 19 := ⟨fnR_body h19 (by kernel_rfl), fun x1 x3 x4 x5 K ⟨ps, its, hx1, hx5, hv, hl, hi, hK⟩ => ac19 (by
  subst hx1 hx5
  unfold vc19
  simp only [stdE, baseE, Br_iff, row2_len, tbl19, forall_eq, List.nil_append, decide_eq_true_eq]
  simp only [p38 hv hl, true_and]
  simp only [e38, postR, List.getD_cons_zero, List.getD_cons_succ, gi_int, gl_sl]
  exact ⟨(fun h => by cases h), fun _ => ⟨(by simp; omega), hK⟩⟩)⟩
/-! ### The program's Post -/
def tbl18 : FuncId → List A → List C := fun f ds => match f with
  | 13 => S13 ds
  | 33 => S33 ds
  | 37 => S37 ds
  | _ => []
theorem ac18 {x1 : List (List C)} {x2 : List (Int × C)} {x3 : Int} {x4 : Int} {x5 : List (List C)} (ce35 : AddC Try.prog 35) (ce36 : BackC Try.prog 36) {Q0 : (List (Int × C)) → (Int) → Prop} {Q1 : (List (List C)) → (List (Int × C)) → Prop} (h : vc18 (stdE Try.prog tbl18) x1 x2 x3 x4 x5 Q0 Q1) : ACalls Try.prog 18 [.ptr 0 0, .agg [.c (.int .i64 x3), .c (.int .i64 x4), .c (.sl [.int .i64, .int .i64] x5)]] [.box 54 [.gr 1, .map 2], .arr 24 [.int .i64, .int .i64, .sl [.int .i64, .int .i64]] x1, .mp .i64 (.int .i64) x2] fun r H' => (∃ m1 : List (Int × C), ∃ i2 : Int, Q0 m1 i2 ∧ r = .c (.int .i64 i2) ∧ H' = [.box 54 [.gr 1, .map 2], .arr 24 [.int .i64, .int .i64, .sl [.int .i64, .int .i64]] x1, .mp .i64 (.int .i64) m1]) ∨ (∃ l3 : List (List C), ∃ m4 : List (Int × C), Q1 l3 m4 ∧ r = .c (.int .i64 0) ∧ H' = [.box 54 [.gr 3, .map 2], .dead, .mp .i64 (.int .i64) m4, .arr 24 [.int .i64, .int .i64, .sl [.int .i64, .int .i64]] l3]) := ACalls_vcD mo h18 (w18 ce35 ce36 h)
def tbl18N : FuncId → List A → List C := fun f ds => match f with
  | _ => []
theorem ac18N {x3 : Int} {x4 : Int} {x5 : List (List C)}  {Q0 : Prop} (h : vc18N (stdE Try.prog tbl18N) x3 x4 x5 Q0) : ACalls Try.prog 18 [.np, .agg [.c (.int .i64 x3), .c (.int .i64 x4), .c (.sl [.int .i64, .int .i64] x5)]] [] fun r H' => (Q0  ∧ r = .c (.int .i64 14) ∧ H' = []) := ACalls_vcD mo h18 (w18N  h)
theorem back_of {ps : List PT} {p : PT} {m : List (Int × C)} (hv : ∀ q ∈ ps, chkP q = 0) (hl : ps.length ≤ 512) (h : chkP p = 0) (hm : ∀ k, look m k = bal (ps ++ [p]) k) (x1 : List (List C)) (a b e : Int) (he : e ≠ 0) {K : List (Int × C) → Prop} (hK : ∀ m', LInv ps m' → K m') :
    spBack e x1 m a b (row2 p.2.2) K := by
  refine ⟨fun _ => ⟨p.2.2, bal (ps ++ [p]), rfl, hm, (chk_ok h).2.2.2.2.2.1, chk_amt h, .inr rfl, fun k => ?_, fun m' hm' => hK m' ⟨hv, hl, fun k => ?_⟩⟩, fun h0 => absurd h0 he⟩
  · have := bal_b (ps := ps ++ [p]) (fun q hq => by
      rcases List.mem_append.1 hq with hq | hq
      · exact hv q hq
      · rw [List.mem_singleton.1 hq]; exact h) (by simp; omega) k 2147483647
    exact ⟨Int.le_trans (by decide) this.1, Int.le_trans this.2 (by decide)⟩
  · rw [hm' k, bal_app ps h]
    omega
theorem c18 : PostC Try.prog 18 := ⟨fnRD_body h18 (by kernel_rfl), fun x1 x2 a b x5 K0 K1 ⟨ps, its, hx1, hx5, ⟨hv, hl, hm⟩, h0, h1⟩ => ac18 c35 c36 (by
  subst hx1 hx5
  obtain ⟨p, hp⟩ : ∃ p : PT, p = (a, b, its) := ⟨_, rfl⟩
  have er : rowsP ps ++ [[C.int .i64 a, .int .i64 b, .sl L2 (row2 its)]] = rowsP (ps ++ [p]) := by rw [rowsP_app, hp]; rfl
  rw [← hp] at h0 h1
  unfold vc18
  simp only [stdE, baseE, Br_iff, Imp_iff, bite_and, bite_or, rowsP_len, row2_len, tbl18, forall_eq, rowsP_c1, late_iff ps _ (show ps.length ≤ 1000000 by omega)]
  simp only [p13, p33 (show ps.length ≤ 1000000 by omega), true_and]
  simp only [e13, e33, List.getD_cons_zero, gi_int, gb_bool, ← hp, Bool.not_eq_true', Bool.not_eq_false', beq_iff_eq, beq_eq_false_iff_ne]
  refine ⟨(fun h => by cases h), fun _ => ⟨fun h => ?_, fun h => ?_⟩⟩
  · have e : postE ps p = chkP p := by unfold postE; rw [if_pos h]
    rw [e] at h0
    exact h0 h x2 ⟨hv, hl, hm⟩
  have he := postE_ok (ps := ps) h
  have ho := chk_ok h
  have hi : its = p.2.2 := by rw [hp]
  have e1 : a = p.1 := by rw [hp]
  have e2 : b = p.2.1 := by rw [hp]
  have hv2 : ∀ q ∈ ps ++ [p], chkP q = 0 := fun q hq => by
    rcases List.mem_append.1 hq with hq | hq
    · exact hv q hq
    · rw [List.mem_singleton.1 hq]; exact h
  simp only [p37 _ _ (c := row2 its) (by rw [row2_len, hi]; omega), true_and]
  simp only [e37, List.getD_cons_zero, List.getD_cons_succ, gi_int, gl_sl, er]
  rw [e1, e2, hi]
  clear er hp e1 e2 hi
  refine ⟨fun h2 => ?_, fun h2 => ?_⟩
  · rw [if_pos h2] at he
    rw [he] at h0
    exact h0 (by decide) x2 ⟨hv, hl, hm⟩
  rw [if_neg (by simp [h2])] at he
  simp only [decide_eq_true_eq, decide_eq_false_iff_not]
  refine ⟨fun h3 => by rw [wrap_in (by omega) (by omega)]; omega, fun h3 => by rw [wrap_in (by omega) (by omega)]; omega, fun h3 => ?_, fun h3 => ?_⟩
  · rw [if_pos h3] at he
    rw [he] at h0
    exact h0 (by decide) x2 ⟨hv, hl, hm⟩
  rw [if_neg (by simp [h3])] at he
  refine ⟨p.2.2, bal ps, rfl, hm, ho.2.2.2.2.2.1, chk_amt h, .inl rfl, fun k => ?_, fun m hm1 => ?_⟩
  · have := bal_b hv (by omega) k 2147483647
    exact ⟨Int.le_trans (by decide) this.1, Int.le_trans this.2 (by decide)⟩
  have hm2 : ∀ k, look m k = bal (ps ++ [p]) k := fun k => by rw [hm1 k, bal_app ps h]; omega
  refine find_loop (p := isO ps p) (n := p.2.2.length) (A' := fun k => ovfB ps p = true) (B := ovfB ps p = false) (by omega) ?_ ?_ (fun k hk h1 h2 => ovf_of h1) ovf_no
  · intro k K hk ha hf
    simp only [toNat_cast, row2_c0, acc_fold, decide_eq_true_eq, decide_eq_false_iff_not, look_fold, hm2, ← isO_iff]
    refine ⟨fun _ => ⟨by omega, fun hd => ?_, fun hd => ?_⟩, fun h => by omega⟩
    · rw [if_pos (ha hd)] at he
      rw [he] at h0
      exact back_of hv hl h hm2 _ _ _ _ (by decide) fun m' hm' => h0 (by decide) m' hm'
    · rw [wrap_up rfl (by omega)]
      exact hf hd
  intro K hd
  rw [if_neg (by simp [hd])] at he
  refine ⟨fun h => by omega, fun _ => ⟨fun h5 => ?_, fun h5 => ?_⟩⟩
  · rw [if_pos (by omega)] at he
    rw [he] at h0
    exact back_of hv hl h hm2 _ _ _ _ (by decide) fun m' hm' => h0 (by decide) m' hm'
  · rw [if_neg (by omega)] at he
    have l1 : ∀ r : List C, (([r] : List (List C)).length : Int) = 1 := fun _ => rfl
    refine ⟨by simp only [l1]; omega, fun h6 => absurd rfl h6, fun _ => ?_⟩
    exact h1 he m ⟨hv2, by simp; omega, hm2⟩), fun a b x5 K h => ac18N (by
  unfold vc18N
  exact ⟨rfl, h⟩)⟩
end Go.Proofs.Ytlmllogbaacoeaa.V
