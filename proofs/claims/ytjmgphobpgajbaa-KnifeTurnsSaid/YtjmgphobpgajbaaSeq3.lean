/- Knives: orders and their costs, in the reference. No conditions. -/
import Derived.Test.YtjmgphobpgajbaaSeq2
set_option linter.unusedVariables false
set_option linter.unusedSimpArgs false
namespace Go.Proofs.Ytjmgphobpgajbaa.V
open Go Go.Eng
set_option maxRecDepth 1000000
set_option maxHeartbeats 1000000
def S36 : List A → List C := fun ds => match ds with
  | [.c (.sl _ P), .c (.sl _ o)] => [.int .i64 (lenL (unL P) (-1 :: prI o))]
  | _ => []
theorem e36 (P : List (List Int)) (o : List Int) : S36 [sL (rowL P), sI (rowsI o)] = [.int .i64 (lenL P (-1 :: o))] := by
  show [C.int .i64 (lenL (unL (rowL P)) (-1 :: prI (rowsI o)))] = _
  rw [prI_rowsI, unL_rowL]
theorem lastP_one {P : List (List Int)} {o : List Int} {n : Nat} (h0 : n ≠ 0) (hn : n ≤ o.length) : lastP P (o.take n) = P.getD (o.getD (n - 1) 0).toNat [] := by
  have e : n = n - 1 + 1 := by omega
  rw [e, lastP_up (by omega)]; rfl
def tbl36 : FuncId → List A → List C := fun f ds => match f with
  | 29 => S29 ds
  | _ => []
theorem pc36  {x1 : List (List C)} {x2 : List (List C)} {row : List C} (hS : S36 [.c (.sl [.sl [.int .i64]] x1), .c (.sl [.int .i64] x2)] = row) (h : vc36 (stdE Try.prog tbl36) x1 x2 fun c => c = row) : PCg Try.prog 36 S36 [(false, [.int .i64])] [.c (.sl [.sl [.int .i64]] x1), .c (.sl [.int .i64] x2)] := PureC_vc mo h36 (by kernel_rfl) hS (w36  h)
theorem p36 {P : List (List Int)} (hP : okG P) (hs : ∀ p ∈ P, p.Pairwise (· < ·)) {o : List Int} (ho : ∀ z ∈ o, 0 ≤ z ∧ z < P.length) (hl : o.length ≤ 1000) : PCg Try.prog 36 S36 [kI] [sL (rowL P), sI (rowsI o)] := by
  refine pc36 (e36 P o) ?_
  unfold vc36
  simp only [stdE, baseE, Br_iff, tbl36, forall_eq, rowL_len, rowL_cell, rowsI_len, rowsI_getD, decide_eq_true_eq, decide_eq_false_iff_not, beq_iff_eq, beq_eq_false_iff_ne, Int.toNat_zero]
  refine LoopP2.run (x1 := 0) (x2 := 0) (fun n : Nat => lenL P (-1 :: o.take n)) (fun n => (n : Int)) (fun n => n ≤ o.length) (fun n => o.length - n) 0 (Nat.zero_le _) rfl rfl ?_
  intro n hn K hK
  have hgo : ∀ i, i < o.length → 0 ≤ o.getD i 0 ∧ o.getD i 0 < P.length := fun i hi => ho _ (getD_mem hi)
  refine ⟨fun q => ⟨fun q0 => ?_, fun q0 => ?_⟩, fun q => ?_⟩
  · have hn0 : n = 0 := by omega
    subst hn0
    have h0 := hgo 0 (by omega)
    refine ⟨by omega, by omega, h0.1, h0.2, ?_⟩
    refine hK _ _ 1 (by omega) (by omega) ?_ (wrap_up (n := 0) rfl (by omega))
    have := lenL_up (P := P) (o := o) (n := 0) (by omega) (fun z hz => by simp at hz)
    rw [this]
    simp only [List.take_zero, lenL, lastP, if_true, Int.zero_add]
    unfold mvN
    rw [List.filter_eq_self.2 fun x _ => by simp]
  · have hlt : n < o.length := by omega
    have hn0 : n ≠ 0 := by omega
    have h1 := hgo (n - 1) (by omega)
    have h2 := hgo n hlt
    have ew : IntKind.i64.wrap ((n : Int) - 1) = ((n - 1 : Nat) : Int) := wrap_dn rfl (by omega) (by omega)
    simp only [ew, toNat_cast]
    have a1 := okG_at hP (o.getD (n - 1) 0).toNat
    have a2 := okG_at hP (o.getD n 0).toNat
    have a3 : (P.getD (o.getD (n - 1) 0).toNat []).Pairwise (· < ·) := hs _ (getD_mem (by omega))
    refine ⟨by omega, by omega, h1.1, h1.2, by omega, h2.1, h2.2, p29 a3 (by omega) (by omega), ?_⟩
    rw [e29 a3, List.getD_cons_zero, gi_int]
    have hb := vO_bd hP (o := o.take n) fun y hy => ho y (mem_take hy)
    have hmv := mvN_le (P.getD (o.getD (n - 1) 0).toNat []) (P.getD (o.getD n 0).toNat [])
    have htl : (o.take n).length = n := by simp; omega
    rw [htl] at hb
    refine hK _ _ (n + 1) hlt (by omega) ?_ (wrap_up rfl (by omega))
    rw [lenL_up hlt fun y hy => (ho y (mem_take hy)).1, lastP_one hn0 hn, wrap_in (by omega) (by omega)]
  · have : n = o.length := by omega
    subst this
    rw [List.take_length]
def S35 : List A → List C := fun ds => match ds with
  | [.c (.sl _ P), .c b, .c (.sl _ l)] => [.sl [.int .i64] (rowsI (best (unL P) (prI l).length (-1 :: prI b.gl) (prI l)).tail)]
  | _ => []
theorem e35 (P : List (List Int)) (b l : List Int) : S35 [sL (rowL P), sI (rowsI b), sI (rowsI l)] = [.sl [.int .i64] (rowsI (best P l.length (-1 :: b) l).tail)] := by
  show [C.sl [.int .i64] (rowsI (best (unL (rowL P)) (prI (rowsI l)).length (-1 :: prI (rowsI b)) (prI (rowsI l))).tail)] = _
  rw [prI_rowsI, prI_rowsI, unL_rowL]
theorem e35N (P : List (List Int)) (l : List Int) : S35 [sL (rowL P), .c .nil, sI (rowsI l)] = [.sl [.int .i64] (rowsI (best P l.length [-1] l).tail)] := by
  show [C.sl [.int .i64] (rowsI (best (unL (rowL P)) (prI (rowsI l)).length [-1] (prI (rowsI l))).tail)] = _
  rw [prI_rowsI, unL_rowL]
def tbl35 : FuncId → List A → List C := fun f ds => match f with
  | 35 => S35 ds
  | 36 => S36 ds
  | _ => []
theorem pc35  {x1 : List (List C)} {x2 : List (List C)} {x3 : List (List C)} {row : List C} (hS : S35 [.c (.sl [.sl [.int .i64]] x1), .c (.sl [.int .i64] x2), .c (.sl [.int .i64] x3)] = row) (h : vc35 (stdE Try.prog tbl35) x1 x2 x3 fun c => c = row) : PCg Try.prog 35 S35 [(false, [.sl [.int .i64]])] [.c (.sl [.sl [.int .i64]] x1), .c (.sl [.int .i64] x2), .c (.sl [.int .i64] x3)] := PureC_vc mo h35 (by kernel_rfl) hS (w35  h)
theorem p35 {P : List (List Int)} (hP : okG P) (hs : ∀ p ∈ P, p.Pairwise (· < ·)) : ∀ (r : Nat) (b l : List Int), l.length = r → (∀ z ∈ b ++ l, 0 ≤ z ∧ z < P.length) → b.length + l.length ≤ 100 →
    PCg Try.prog 35 S35 [kL] [sL (rowL P), sI (rowsI b), sI (rowsI l)] := by
  intro r
  induction r with
  | zero =>
    intro b l hr ho hbl
    have : l = [] := List.length_eq_zero_iff.1 hr
    subst this
    refine pc35 (e35 ..) ?_
    unfold vc35
    simp only [stdE, baseE, Br_iff, rowsI_len, List.length_nil]
    exact ⟨fun _ => rfl, fun q => by simp at q⟩
  | succ r ih =>
    intro b l hr ho hbl
    refine pc35 (e35 ..) ?_
    unfold vc35
    simp only [stdE, baseE, Br_iff, Imp_iff, tbl35, forall_eq, rowsI_len, rowsI_getD]
    refine ⟨fun q => by have q : (l.length : Int) = 0 := by simpa using q
                        omega, fun _ => ?_⟩
    have hne : l ≠ [] := fun q => by rw [q] at hr; simp at hr
    obtain ⟨X, hX⟩ : ∃ X, X = cho P r (-1 :: b) l := ⟨_, rfl⟩
    have hXt : ∀ i, i < l.length → ∃ t, X i = -1 :: t ∧ t ≠ [] ∧ t.length ≤ 100 ∧ (∀ z ∈ t, 0 ≤ z ∧ z < P.length) ∧ best P (l.eraseIdx i).length (-1 :: (b ++ [l.getD i 0])) (l.eraseIdx i) = X i := fun i hi => by
      have he : (l.eraseIdx i).length = r := by rw [List.length_eraseIdx_of_lt hi]; omega
      obtain ⟨u, e1, e2, _⟩ := best_spec (g := P) r ((-1 :: b) ++ [l.getD i 0]) (l.eraseIdx i) he (by simp)
      have eX : X i = best P r ((-1 :: b) ++ [l.getD i 0]) (l.eraseIdx i) := by rw [hX]; rfl
      refine ⟨b ++ [l.getD i 0] ++ u, by rw [eX, e1]; simp, by simp, ?_, fun z hz => ?_, by rw [he, eX]; rfl⟩
      · have := e2.length_eq
        rw [he] at this
        rw [List.length_append, List.length_append, List.length_singleton]; omega
      · rcases List.mem_append.1 hz with hz | hz
        · rcases List.mem_append.1 hz with hz | hz
          · exact ho z (by simp [hz])
          · simp only [List.mem_singleton] at hz; subst hz; exact ho _ (List.mem_append.2 (.inr (getD_mem hi)))
        · exact ho z (List.mem_append.2 (.inr (List.eraseIdx_subset (e2.subset hz))))
    have hbest : best P l.length (-1 :: b) l = mn X P l.length := by rw [hr, best_succ, if_neg hne, ← hX, hr]
    rw [hbest]
    have hmt : ∀ k, k < l.length → ∃ t, mn X P (k + 1) = -1 :: t ∧ t ≠ [] ∧ t.length ≤ 100 ∧ (∀ z ∈ t, 0 ≤ z ∧ z < P.length) := fun k hk => by
      obtain ⟨i, hi, hm, _⟩ := mn_spec (g := P) (X := X) k fun i hi => by
        obtain ⟨t, e, _⟩ := hXt i (by omega); rw [e]; simp
      obtain ⟨t, e, h1, h2, h3, _⟩ := hXt i (by omega)
      exact ⟨t, by rw [hm, e], h1, h2, h3⟩
    refine LoopP2.run (x1 := []) (x2 := 0) (fun n : Nat => rowsI (mn X P n).tail) (fun n => (n : Int)) (fun n => n ≤ l.length) (fun n => l.length - n) 0 (Nat.zero_le _) rfl rfl ?_
    intro n hn K hK
    simp only [toNat_cast, List.nil_append, Int.toNat_zero, List.drop_zero, List.length_nil, rowsI_len]
    refine ⟨fun q => ?_, fun q => ?_⟩
    · have hlt : n < l.length := by simp at q; omega
      obtain ⟨t, t1, t2, t3, t4, t5⟩ := hXt n hlt
      have ew : IntKind.i64.wrap ((n : Int) + 1) = ((n + 1 : Nat) : Int) := wrap_up rfl (by omega)
      have ebeg : rowsI b ++ [[C.int IntKind.i64 (l.getD n 0)]] = rowsI (b ++ [l.getD n 0]) := by rw [rowsI_append]; rfl
      have eleft : List.take n (rowsI l) ++ List.drop (n + 1) (List.take l.length (rowsI l)) = rowsI (l.eraseIdx n) := by
        rw [show List.take l.length (rowsI l) = rowsI l by rw [← rowsI_len l, List.take_length], List.eraseIdx_eq_take_drop_succ, rowsI_append]
        simp [rowsI, List.map_take, List.map_drop]
      have hp := ih (b ++ [l.getD n 0]) (l.eraseIdx n) (by rw [List.length_eraseIdx_of_lt hlt]; omega) (fun z hz => by
        rcases List.mem_append.1 hz with hz | hz
        · rcases List.mem_append.1 hz with hz | hz
          · exact ho z (by simp [hz])
          · simp only [List.mem_singleton] at hz; subst hz; exact ho _ (List.mem_append.2 (.inr (getD_mem hlt)))
        · exact ho z (List.mem_append.2 (.inr (List.eraseIdx_subset hz)))) (by rw [List.length_eraseIdx_of_lt hlt]; simp; omega)
      simp only [ew, toNat_cast, ebeg, eleft]
      have hval : (S35 [sL (rowL P), sI (rowsI (b ++ [l.getD n 0])), sI (rowsI (l.eraseIdx n))]) = [.sl [.int .i64] (rowsI t)] := by
        rw [e35, t5, t1]; rfl
      simp only [hval, List.getD_cons_zero, gl_sl]
      refine ⟨by simp, by simp, by simp; omega, by simp [rowsI_len]; omega, by simp; omega, by simp; omega, by simp, by simp [rowsI_len]; omega, by simp [rowsI_len]; omega, by simp [rowsI_len]; omega, PureC.cg hp hval, ?_⟩
      have pX := p36 hP hs t4 (by omega)
      refine ⟨fun _ => pX, ?_⟩
      simp only [e36, List.getD_cons_zero, gi_int]
      cases n with
      | zero =>
        have hm0 : (mn X P 0).tail = [] := rfl
        rw [hm0]
        have hm1 : mn X P 1 = X 0 := mn_one X
        refine ⟨fun h => by simp at h, fun _ => hK _ _ 1 (by omega) (by omega) ?_ rfl, fun h => by simp at h⟩
        rw [hm1, t1]; rfl
      | succ n =>
        obtain ⟨u, u1, u2, u3, u4⟩ := hmt n (by omega)
        have hpu := p36 hP hs u4 (by omega)
        have htl : (mn X P (n + 1)).tail = u := by rw [u1]; rfl
        rw [htl]
        have hul : ((u.length : Int) == 0) = false := by
          have := List.length_pos_iff.2 u2
          simp; exact u2
        simp only [hul]
        have hms : mn X P (n + 1 + 1) = if lenL P (X (n + 1)) < lenL P (mn X P (n + 1)) then X (n + 1) else mn X P (n + 1) := mn_succ' (by rw [u1]; simp)
        rw [t1, u1] at hms
        refine ⟨fun _ => PureC.cg hpu (e36 ..), ?_⟩
        refine ⟨fun h => ?_, fun h => ?_⟩
        · have h : lenL P (-1 :: t) < lenL P (-1 :: u) := by simpa using h
          rw [if_pos h] at hms
          exact hK _ _ (n + 1 + 1) (by omega) (by omega) (by rw [hms]; rfl) rfl
        · have h : ¬ lenL P (-1 :: t) < lenL P (-1 :: u) := by simpa using h
          rw [if_neg h] at hms
          exact hK _ _ (n + 1 + 1) (by omega) (by omega) (by rw [hms]; rfl) rfl
    · have : n = l.length := by simp at q; omega
      subst this
      rfl
def S33 : List A → List C := fun ds => match ds with
  | [.agg [.c (.int _ w), .c (.int _ e), .c (.int _ t), .c (.int _ k), .c (.sl _ xs)], .c (.sl _ l)] => [.int .i64 (allE w e t k (prI xs) (unL l))]
  | _ => []
theorem e33 (w e t k : Int) (ss : List Int) (l : List (List Int)) : S33 [dk w e t k ss, sL (rowL l)] = [.int .i64 (allE w e t k ss l)] := by
  show [C.int .i64 (allE w e t k (prI (rowsI ss)) (unL (rowL l)))] = _
  rw [prI_rowsI, unL_rowL]
def tbl33 : FuncId → List A → List C := fun f ds => match f with
  | 37 => S37 ds
  | 43 => S43 ds
  | _ => []
theorem pc33  {x1 : Int} {x2 : Int} {x3 : Int} {x4 : Int} {x5 : List (List C)} {x6 : List (List C)} {row : List C} (hS : S33 [.agg [.c (.int .i64 x1), .c (.int .i64 x2), .c (.int .i64 x3), .c (.int .i64 x4), .c (.sl [.int .i64] x5)], .c (.sl [.sl [.int .i64]] x6)] = row) (h : vc33 (stdE Try.prog tbl33) x1 x2 x3 x4 x5 x6 fun c => c = row) : PCg Try.prog 33 S33 [(false, [.int .i64])] [.agg [.c (.int .i64 x1), .c (.int .i64 x2), .c (.int .i64 x3), .c (.int .i64 x4), .c (.sl [.int .i64] x5)], .c (.sl [.sl [.int .i64]] x6)] := PureC_vc mo h33 (by kernel_rfl) hS (w33  h)
theorem p33 (w e t k : Int) (ss : List Int) {l : List (List Int)} (hl : ∀ c ∈ l, c.length ≤ 1000000) : PCg Try.prog 33 S33 [kI] [dk w e t k ss, sL (rowL l)] := by
  refine pc33 (e33 ..) ?_
  unfold vc33
  simp only [stdE, baseE, Br_iff, tbl33, forall_eq, rowL_len, rowL_cell]
  simp only [p43, true_and]
  simp only [e43, List.getD_cons_zero, gi_int, Bool.not_eq_true', Bool.not_eq_false', beq_iff_eq, beq_eq_false_iff_ne, decide_eq_true_eq, decide_eq_false_iff_not]
  refine ⟨fun h => by rw [allE, if_pos h], fun h => ⟨fun h2 => by rw [allE, if_neg (fun q => q h), if_pos (by omega)], fun h2 => ?_⟩⟩
  have hE : allE w e t k ss l = firE w e t k ss l := by rw [allE, if_neg (fun q => q h), if_neg (by omega)]
  rw [hE]
  refine LoopP1.run (x1 := 0) (fun n : Nat => (n : Int)) (fun n => n ≤ l.length ∧ firE w e t k ss (l.drop n) = firE w e t k ss l) (fun n => l.length - n) 0 ⟨Nat.zero_le _, rfl⟩ rfl ?_
  rintro n ⟨hn, hf⟩ K hK
  have hc : (l.getD n []).length ≤ 1000000 := getD_l hl
  simp only [toNat_cast]
  refine ⟨fun q => ⟨by omega, p37 w e t k ss hc, ?_⟩, fun q => ?_⟩
  · have hlt : n < l.length := by omega
    rw [List.drop_eq_getElem_cons hlt, firE, ← getD_get (d := []) hlt] at hf
    simp only [e37, List.getD_cons_zero, gi_int]
    refine ⟨fun q2 => ?_, fun q2 => ?_⟩
    · rw [if_pos q2] at hf
      rw [hf]
    · rw [if_neg (fun q3 => q3 q2)] at hf
      exact hK _ (n + 1) ⟨hlt, hf⟩ (by omega) (wrap_up rfl (by omega))
  · have : n = l.length := by omega
    subst this
    rw [List.drop_length] at hf
    rw [← hf]; rfl
def S34 : List A → List C := fun ds => match ds with
  | [.agg [.c (.int _ w), .c (.int _ e), .c (.int _ t), .c (.int _ k), .c (.sl _ xs)], .c (.sl _ l)] => [.sl L1 (rowL (allP w e t k (prI xs) (unL l)))]
  | _ => []
theorem e34 (w e t k : Int) (ss : List Int) (l : List (List Int)) : S34 [dk w e t k ss, sL (rowL l)] = [.sl L1 (rowL (allP w e t k ss l))] := by
  show [C.sl L1 (rowL (allP w e t k (prI (rowsI ss)) (unL (rowL l))))] = _
  rw [prI_rowsI, unL_rowL]
def tbl34 : FuncId → List A → List C := fun f ds => match f with
  | 13 => S13 ds
  | _ => []
theorem pc34  {x1 : Int} {x2 : Int} {x3 : Int} {x4 : Int} {x5 : List (List C)} {x6 : List (List C)} {row : List C} (hS : S34 [.agg [.c (.int .i64 x1), .c (.int .i64 x2), .c (.int .i64 x3), .c (.int .i64 x4), .c (.sl [.int .i64] x5)], .c (.sl [.sl [.int .i64]] x6)] = row) (h : vc34 (stdE Try.prog tbl34) x1 x2 x3 x4 x5 x6 fun c => c = row) : PCg Try.prog 34 S34 [(false, [.sl [.sl [.int .i64]]])] [.agg [.c (.int .i64 x1), .c (.int .i64 x2), .c (.int .i64 x3), .c (.int .i64 x4), .c (.sl [.int .i64] x5)], .c (.sl [.sl [.int .i64]] x6)] := PureC_vc mo h34 (by kernel_rfl) hS (w34  h)
theorem p34 (w e t k : Int) (ss : List Int) {l : List (List Int)} (hl : ∀ c ∈ l, c.length ≤ 1000000) (hll : l.length ≤ 1000000) : PCg Try.prog 34 S34 [kLL] [dk w e t k ss, sL (rowL l)] := by
  refine pc34 (e34 ..) ?_
  unfold vc34
  simp only [stdE, baseE, Br_iff, tbl34, forall_eq, rowL_len, rowL_cell]
  refine LoopP2.run (x1 := []) (x2 := 0) (fun n : Nat => rowL (allP w e t k ss (l.take n))) (fun n => (n : Int)) (fun n => n ≤ l.length) (fun n => l.length - n) 0 (Nat.zero_le _) rfl rfl ?_
  intro n hn K hK
  have hc : (l.getD n []).length ≤ 1000000 := getD_l hl
  simp only [toNat_cast, decide_eq_true_eq, decide_eq_false_iff_not]
  refine ⟨fun q => ⟨by omega, p13 w e t k ss hc, by rw [rowL_len, allP_len]; simp; omega, ?_⟩, fun q => ?_⟩
  · have hlt : n < l.length := by omega
    simp only [e13, knV, List.getD_cons_zero, gl_sl]
    refine hK _ _ (n + 1) hlt (by omega) ?_ (wrap_up rfl (by omega))
    unfold allP
    rw [map_take (knL w e t k ss) l [] hlt, rowL_append]; rfl
  · have : n = l.length := by omega
    subst this
    rw [List.take_length]
def tbl18 : FuncId → List A → List C := fun f ds => match f with
  | 33 => S33 ds
  | 34 => S34 ds
  | 35 => S35 ds
  | 36 => S36 ds
  | _ => []
theorem pc18  {x1 : Int} {x2 : Int} {x3 : Int} {x4 : Int} {x5 : List (List C)} {x6 : List (List C)} {row : List C} (hS : S18 [.agg [.c (.int .i64 x1), .c (.int .i64 x2), .c (.int .i64 x3), .c (.int .i64 x4), .c (.sl [.int .i64] x5)], .c (.sl [.sl [.int .i64]] x6)] = row) (h : vc18 (stdE Try.prog tbl18) x1 x2 x3 x4 x5 x6 fun c => c = row) : PCg Try.prog 18 S18 [(false, [.sl [.int .i64]]), (false, [.int .i64]), (false, [.int .i64])] [.agg [.c (.int .i64 x1), .c (.int .i64 x2), .c (.int .i64 x3), .c (.int .i64 x4), .c (.sl [.int .i64] x5)], .c (.sl [.sl [.int .i64]] x6)] := PureC_vc mo h18 (by kernel_rfl) hS (w18  h)
theorem p18 (w e t k : Int) (ss : List Int) {l : List (List Int)} (hl : ∀ c ∈ l, c.length ≤ 1000000) : PCg Try.prog 18 S18 [kL, kI, kI] [dk w e t k ss, sL (rowL l)] := by
  refine pc18 (e18 ..) ?_
  unfold vc18
  simp only [stdE, baseE, Br_iff, tbl18, forall_eq, rowL_len]
  simp only [p33 w e t k ss hl, true_and]
  simp only [e33, List.getD_cons_zero, gi_int, Bool.not_eq_true', Bool.not_eq_false', beq_iff_eq, beq_eq_false_iff_ne, decide_eq_true_eq, decide_eq_false_iff_not]
  refine ⟨fun h => ?_, fun h => ?_⟩
  · rw [sqV, if_neg h]
  have h8 := allE_ok h
  obtain ⟨P, hPe⟩ : ∃ P, allP w e t k ss l = P := ⟨_, rfl⟩
  have hPl : P.length = l.length := by rw [← hPe, allP_len]
  have hPs : ∀ p ∈ P, p.Pairwise (· < ·) := by rw [← hPe]; exact (allP_ok w e t k ss l).1
  have hP : okG P := by rw [← hPe]; exact (allP_ok w e t k ss l).2
  obtain ⟨r, t1, t2, t3, t4, t5⟩ := sqT_spec hP
  rw [sqV, if_pos h, hPe]
  refine LoopP2.run (x1 := []) (x2 := 0) (fun n : Nat => rowsI (rgI n)) (fun n => (n : Int)) (fun n => n ≤ l.length) (fun n => l.length - n) 0 (Nat.zero_le _) rfl rfl ?_
  intro n hn K hK
  refine ⟨fun q => ⟨by rw [rowsI_len, rgI_len]; simp; omega, hK _ _ (n + 1) (by omega) (by omega) ?_ (wrap_up rfl (by omega))⟩, fun q => ?_⟩
  · unfold rgI
    rw [List.range_succ, List.map_append, rowsI_append]; rfl
  · have : n = l.length := by omega
    subst this
    refine ⟨p34 w e t k ss hl (by omega), ?_⟩
    rw [e34, List.getD_cons_zero, gl_sl, hPe]
    have hT : best P (rgI l.length).length [-1] (rgI l.length) = -1 :: r := by rw [rgI_len, ← hPl]; exact t1
    have hb : PCg Try.prog 35 S35 [kL] [sL (rowL P), .c .nil, sI (rowsI (rgI l.length))] := by
      have := p35 hP hPs _ [] (rgI l.length) rfl (fun z hz => by rw [List.nil_append] at hz; have := rgI_mem.1 hz; omega) (by rw [rgI_len]; simp; omega)
      exact PureC.cg (PureC.nil1 this) ((e35 ..).trans (e35N ..).symm)
    refine ⟨hb, ?_⟩
    rw [e35N, hT, List.getD_cons_zero, gl_sl, List.tail_cons]
    have hrl := t2.length_eq
    rw [rgI_len] at hrl
    refine ⟨p36 hP hPs (fun z hz => rgI_mem.1 (t2.subset hz)) (by omega), ?_⟩
    rw [e36, List.getD_cons_zero, gi_int, t1]; rfl
/-! ### The cost of an order -/
def sn (w : List Int) : List Int := w.foldl (fun l x => putL x l) []
theorem putL_ok {x : Int} : ∀ {l : List Int}, l.Pairwise (· < ·) → (putL x l).Pairwise (· < ·) ∧ ∀ y, y ∈ putL x l ↔ y = x ∨ y ∈ l
  | [], _ => by simp [putL]
  | a :: l, h => by
    have h' := List.pairwise_cons.1 h
    have ih := putL_ok (x := x) h'.2
    unfold putL
    by_cases h1 : a < x
    · rw [if_pos h1]
      refine ⟨List.pairwise_cons.2 ⟨fun y hy => ?_, ih.1⟩, fun y => ?_⟩
      · rcases (ih.2 y).1 hy with e | hy
        · omega
        · exact h'.1 y hy
      · simp only [List.mem_cons, ih.2 y]
        constructor
        · rintro (q | q | q)
          · exact .inr (.inl q)
          · exact .inl q
          · exact .inr (.inr q)
        · rintro (q | q | q)
          · exact .inr (.inl q)
          · exact .inl q
          · exact .inr (.inr q)
    · rw [if_neg h1]
      by_cases h2 : a = x
      · rw [if_pos h2]
        subst h2
        refine ⟨h, fun y => ?_⟩
        simp
      · rw [if_neg h2]
        refine ⟨List.pairwise_cons.2 ⟨fun y hy => ?_, h⟩, fun y => by simp⟩
        rcases List.mem_cons.1 hy with e | hy
        · omega
        · have := h'.1 y hy; omega
theorem sn_snoc (w : List Int) (x : Int) : sn (w ++ [x]) = putL x (sn w) := by unfold sn; rw [List.foldl_append]; rfl
theorem sn_spec (w : List Int) : (sn w).Pairwise (· < ·) ∧ (∀ y, y ∈ sn w ↔ y ∈ w) ∧ (sn w).length ≤ w.length ∧ ((sn w).length = w.length ↔ w.Nodup) := by
  have key : ∀ n, n ≤ w.length → (sn (w.take n)).Pairwise (· < ·) ∧ (∀ y, y ∈ sn (w.take n) ↔ y ∈ w.take n) ∧ (sn (w.take n)).length ≤ n ∧ ((sn (w.take n)).length = n ↔ (w.take n).Nodup) := by
    intro n
    induction n with
    | zero => intro _; simp [sn]
    | succ n ih =>
      intro hn
      obtain ⟨h1, h2, h3, h4⟩ := ih (by omega)
      have hp := putL_ok (x := w.getD n 0) h1
      have hl := putL_len (x := w.getD n 0) h1
      rw [take_s (show n < w.length by omega), sn_snoc]
      refine ⟨hp.1, fun y => ?_, ?_, ?_⟩
      · rw [hp.2 y, h2 y]; simp only [List.mem_append, List.mem_singleton]; exact Or.comm
      · rw [hl]; split <;> omega
      · rw [hl, List.nodup_append]
        by_cases q : w.getD n 0 ∈ sn (w.take n)
        · rw [if_pos q]
          refine ⟨fun q2 => by omega, fun q2 => absurd rfl (q2.2.2 _ ((h2 _).1 q) _ (by simp))⟩
        · rw [if_neg q]
          have q' : w.getD n 0 ∉ w.take n := fun q2 => q ((h2 _).2 q2)
          refine ⟨fun q2 => ⟨h4.1 (by omega), by simp, fun a ha b hb => by simp only [List.mem_singleton] at hb; rintro rfl; exact q' (hb ▸ ha)⟩, fun q2 => by have := h4.2 q2.1; omega⟩
  have := key w.length (Nat.le_refl _)
  rwa [List.take_length] at this
def tbl20 : FuncId → List A → List C := fun f ds => match f with
  | 27 => S27 ds
  | 33 => S33 ds
  | 34 => S34 ds
  | 36 => S36 ds
  | _ => []
theorem pc20  {x1 : Int} {x2 : Int} {x3 : Int} {x4 : Int} {x5 : List (List C)} {x6 : List (List C)} {x7 : List (List C)} {row : List C} (hS : S20 [.agg [.c (.int .i64 x1), .c (.int .i64 x2), .c (.int .i64 x3), .c (.int .i64 x4), .c (.sl [.int .i64] x5)], .c (.sl [.sl [.int .i64]] x6), .c (.sl [.int .i64] x7)] = row) (h : vc20 (stdE Try.prog tbl20) x1 x2 x3 x4 x5 x6 x7 fun c => c = row) : PCg Try.prog 20 S20 [(false, [.int .i64]), (false, [.int .i64])] [.agg [.c (.int .i64 x1), .c (.int .i64 x2), .c (.int .i64 x3), .c (.int .i64 x4), .c (.sl [.int .i64] x5)], .c (.sl [.sl [.int .i64]] x6), .c (.sl [.int .i64] x7)] := PureC_vc mo h20 (by kernel_rfl) hS (w20  h)
theorem p20 (w e t k : Int) (ss : List Int) {l : List (List Int)} (hl : ∀ c ∈ l, c.length ≤ 1000000) (o : List Int) : PCg Try.prog 20 S20 [kI, kI] [dk w e t k ss, sL (rowL l), sI (rowsI o)] := by
  refine pc20 (e20 ..) ?_
  unfold vc20
  simp only [stdE, baseE, Br_iff, tbl20, forall_eq, rowL_len, rowsI_len, rowsI_getD]
  simp only [p33 w e t k ss hl, true_and]
  simp only [e33, List.getD_cons_zero, gi_int, Bool.not_eq_true', Bool.not_eq_false', beq_iff_eq, beq_eq_false_iff_ne, decide_eq_true_eq, decide_eq_false_iff_not]
  refine ⟨fun h => ?_, fun h => ⟨fun h1 => ?_, fun h1 => ?_⟩⟩
  · rw [csV, if_pos h]
  · rw [csV, if_neg (fun q => q h), if_pos (by omega)]
  have h1 : o.length = l.length := by omega
  have h8 := allE_ok h
  obtain ⟨P, hPe⟩ : ∃ P, allP w e t k ss l = P := ⟨_, rfl⟩
  have hPl : P.length = l.length := by rw [← hPe, allP_len]
  have hPs : ∀ p ∈ P, p.Pairwise (· < ·) := by rw [← hPe]; exact (allP_ok w e t k ss l).1
  have hP : okG P := by rw [← hPe]; exact (allP_ok w e t k ss l).2
  have hcs : csV w e t k ss l o = if vO l.length o then [.int .i64 (lenL (allP w e t k ss l) (-1 :: o)), .int .i64 0] else [.int .i64 0, .int .i64 3] := by
    unfold csV
    rw [if_neg (by rw [h]; simp), if_neg (by omega)]
  rw [hcs, hPe]
  refine LoopP2.run (x1 := []) (x2 := 0) (fun n : Nat => rowsI (sn (o.take n))) (fun n => (n : Int)) (fun n => n ≤ o.length ∧ ∀ z ∈ o.take n, 0 ≤ z ∧ z < l.length) (fun n => o.length - n) 0 ⟨Nat.zero_le _, by simp⟩ rfl rfl ?_
  rintro n ⟨hn, hv⟩ K hK
  have hsl := (sn_spec (o.take n)).2.2.1
  have htl : (o.take n).length ≤ n := by simp; omega
  simp only [toNat_cast, rowsI_len]
  refine ⟨fun q => ⟨by omega, ?_⟩, fun q => ?_⟩
  · have hlt : n < o.length := by omega
    refine ⟨fun q2 => ?_, fun q2 => ⟨p27 (by omega) _, ?_⟩⟩
    · rw [if_neg fun hvo => ?_]
      have := hvo.1 _ (getD_mem (d := 0) hlt)
      by_cases q3 : o.getD n 0 < 0
      · omega
      · rw [if_neg q3] at q2
        have := of_decide_eq_true q2
        omega
    · rw [e27, List.getD_cons_zero, gl_sl]
      have hz : 0 ≤ o.getD n 0 ∧ o.getD n 0 < l.length := by
        by_cases q3 : o.getD n 0 < 0
        · rw [if_pos q3] at q2; cases q2
        · rw [if_neg q3] at q2
          have := of_decide_eq_false q2
          omega
      refine hK _ _ (n + 1) ⟨hlt, fun z hz2 => ?_⟩ (by omega) ?_ (wrap_up rfl (by omega))
      · rw [take_s hlt] at hz2
        rcases List.mem_append.1 hz2 with hz2 | hz2
        · exact hv z hz2
        · simp only [List.mem_singleton] at hz2; omega
      · rw [take_s hlt, sn_snoc]
  · have : n = o.length := by omega
    subst this
    rw [List.take_length] at hv ⊢
    have hnd := (sn_spec o).2.2.2
    refine ⟨fun q2 => ?_, fun q2 => ⟨p34 w e t k ss hl (by omega), ?_⟩⟩
    · rw [if_neg fun hvo => q2 (by have := hnd.2 hvo.2; omega)]
    · have hvo : vO l.length o := ⟨hv, hnd.1 (by omega)⟩
      rw [e34, List.getD_cons_zero, gl_sl, hPe, if_pos hvo]
      refine ⟨p36 hP hPs (fun z hz => by have := hv z hz; omega) (by omega), ?_⟩
      rw [e36, List.getD_cons_zero, gi_int]
/-! ### What is left -/
def lfV (w e t k : Int) (ss c : List Int) : List C := [.int .i64 (if fitsE w e t k ss c = 0 then w - 2 * e - dot c ss else 0), .int .i64 (fitsE w e t k ss c)]
def S22 : List A → List C := fun ds => match ds with
  | [.agg [.c (.int _ w), .c (.int _ e), .c (.int _ t), .c (.int _ k), .c (.sl _ xs)], .c (.sl _ c)] => lfV w e t k (prI xs) (prI c)
  | _ => []
theorem e22 (w e t k : Int) (ss c : List Int) : S22 [dk w e t k ss, sI (rowsI c)] = lfV w e t k ss c := by
  show lfV w e t k (prI (rowsI ss)) (prI (rowsI c)) = _
  rw [prI_rowsI, prI_rowsI]
def tbl22 : FuncId → List A → List C := fun f ds => match f with
  | 37 => S37 ds
  | 38 => S38 ds
  | _ => []
theorem pc22  {x1 : Int} {x2 : Int} {x3 : Int} {x4 : Int} {x5 : List (List C)} {x6 : List (List C)} {row : List C} (hS : S22 [.agg [.c (.int .i64 x1), .c (.int .i64 x2), .c (.int .i64 x3), .c (.int .i64 x4), .c (.sl [.int .i64] x5)], .c (.sl [.int .i64] x6)] = row) (h : vc22 (stdE Try.prog tbl22) x1 x2 x3 x4 x5 x6 fun c => c = row) : PCg Try.prog 22 S22 [(false, [.int .i64]), (false, [.int .i64])] [.agg [.c (.int .i64 x1), .c (.int .i64 x2), .c (.int .i64 x3), .c (.int .i64 x4), .c (.sl [.int .i64] x5)], .c (.sl [.int .i64] x6)] := PureC_vc mo h22 (by kernel_rfl) hS (w22  h)
theorem p22 (w e t k : Int) (ss : List Int) {c : List Int} (hc : c.length ≤ 1000000) : PCg Try.prog 22 S22 [kI, kI] [dk w e t k ss, sI (rowsI c)] := by
  refine pc22 (e22 ..) ?_
  unfold vc22
  simp only [stdE, baseE, Br_iff, tbl22, forall_eq, rowsI_len, rowsI_getD]
  simp only [p37 w e t k ss hc, p38, true_and]
  simp only [e37, e38, List.getD_cons_zero, gi_int, Bool.not_eq_true', Bool.not_eq_false', beq_iff_eq, beq_eq_false_iff_ne, decide_eq_true_eq, decide_eq_false_iff_not]
  refine ⟨fun h => ?_, fun h => ?_⟩
  · rw [lfV, if_neg h]
  obtain ⟨hd, hf⟩ := fitsE_ok h
  have hl := hf.len; have n8 := hd.n8; have w2 := hd.w2; have e0 := hd.e0; have e1 := hd.e1; have k2 := hd.k2; have hk := hf.knv
  rw [lfV, if_pos h, h, hd.usb]
  refine LoopP2.run (x1 := w - 2 * e) (x2 := 0) (fun n : Nat => w - 2 * e - dot (c.take n) (ss.take n)) (fun n => (n : Int)) (fun n => n ≤ c.length) (fun n => c.length - n) 0 (Nat.zero_le _) (by rw [List.take_zero, List.take_zero]; simp only [dot]; omega) rfl ?_
  intro n hn K hK
  simp only [toNat_cast]
  have hs0 := sumL_nonneg (l := c.take n) fun a ha => hf.pos a (mem_take ha)
  have hb := dot_bd (c.take n) (ss.take n) (fun a ha => hf.pos a (mem_take ha)) fun s hs => hd.s12 s (mem_take hs)
  have hsp := sum_split c n
  have hr0 := sumL_nonneg (l := c.drop n) fun a ha => hf.pos a (List.mem_of_mem_drop ha)
  refine ⟨fun q => ⟨by omega, by omega, ?_⟩, fun q => ?_⟩
  · have hlt : n < c.length := by omega
    have hcn := hf.pos _ (getD_mem (d := 0) hlt)
    have hsn := hd.s12 _ (getD_mem (l := ss) (d := 0) (n := n) (by omega))
    have hcm := sumL_mem hf.pos _ (getD_mem (d := 0) hlt)
    have e3 : dot (c.take (n + 1)) (ss.take (n + 1)) = dot (c.take n) (ss.take n) + c.getD n 0 * ss.getD n 0 := by
      rw [take_s hlt, take_s (show n < ss.length by omega), dot_snoc _ _ _ _ (by simp; omega)]
    have hm0 : 0 ≤ c.getD n 0 * ss.getD n 0 := Int.mul_nonneg hcn (by omega)
    have hm1 : c.getD n 0 * ss.getD n 0 ≤ 12 * 12000 := Int.le_trans (Int.mul_le_mul_of_nonneg_left hsn.2 hcn) (by omega)
    rw [wrap_in (n := c.getD n 0 * ss.getD n 0) (by omega) (by omega), wrap_in (n := w - 2 * e - dot (c.take n) (ss.take n) - c.getD n 0 * ss.getD n 0) (by omega) (by omega)]
    exact hK _ _ (n + 1) hlt (by omega) (by rw [e3]; omega) (wrap_up rfl (by omega))
  · have : n = c.length := by omega
    subst this
    rw [List.take_length, List.take_of_length_le (by omega)]
def S14 : List A → List C := fun ds => match ds with
  | [.c (.sl _ a), .c (.sl _ b)] => [.bool (decide (prI a = prI b))]
  | _ => []
theorem e14 (a b : List Int) : S14 [sI (rowsI a), sI (rowsI b)] = [.bool (decide (a = b))] := by
  show [C.bool (decide (prI (rowsI a) = prI (rowsI b)))] = _
  rw [prI_rowsI, prI_rowsI]
end Go.Proofs.Ytjmgphobpgajbaa.V
