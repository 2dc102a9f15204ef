/- Knives: the search finds the best order. No conditions. -/
import Derived.Test.YtjmgphobpgajbaaGS
set_option linter.unusedVariables false
set_option linter.unusedSimpArgs false
namespace Go.Proofs.Ytjmgphobpgajbaa.V
open Go Go.Eng
set_option maxRecDepth 1000000
set_option maxHeartbeats 1000000
theorem rowM_len (P : List (List Int)) : (rowM P).length = P.length := by simp [rowM]
theorem rowM_cell (P : List (List Int)) (k : Nat) (h : k < P.length) : (cellAt (rowM P) k 0).gm = mpL (P.getD k []) := by
  unfold cellAt rowM
  simp [List.getD, h, C.gm]
theorem usR_len (n : Nat) (order : List Int) : (usR n order).length = n := by simp [usR]
theorem usR_cell {n : Nat} (order : List Int) {k : Nat} (h : k < n) : (cellAt (usR n order) k 0).gb = decide ((k : Int) ∈ order) := by
  unfold cellAt usR
  simp [List.getD, h, C.gb]
theorem usR_upd {n : Nat} {order : List Int} {k : Nat} (h : k < n) : updC (usR n order) k 0 (.bool true) = usR n (order ++ [(k : Int)]) := by
  unfold updC usR
  refine List.ext_getElem (by simp) fun i h1 h2 => ?_
  simp at h1
  rw [List.getElem_set]
  by_cases e : k = i
  · subst e
    simp [List.getD, h, setC]
  · rw [if_neg e]
    simp
    intro q
    omega
theorem usR_dn {n : Nat} {order : List Int} {k : Nat} (h : k < n) (hk : (k : Int) ∉ order) : updC (usR n (order ++ [(k : Int)])) k 0 (.bool false) = usR n order := by
  unfold updC usR
  refine List.ext_getElem (by simp) fun i h1 h2 => ?_
  simp at h1
  rw [List.getElem_set]
  by_cases e : k = i
  · subst e
    simp [List.getD, h, setC, hk]
  · rw [if_neg e]
    simp
    rintro q
    omega
/-! ### How many are left below -/
def cl (left : List Int) (k : Int) : Nat := (left.filter fun z => decide (z < k)).length
theorem cl_mem {k : Int} : ∀ {l : List Int}, l.Pairwise (· < ·) → k ∈ l → cl l k < l.length ∧ l.getD (cl l k) 0 = k
  | a :: l, h, hk => by
    rw [List.pairwise_cons] at h
    unfold cl
    by_cases e : a < k
    · have hm : k ∈ l := by rcases List.mem_cons.1 hk with q | q; · omega
                            · exact q
      have ih := cl_mem h.2 hm
      unfold cl at ih
      rw [List.filter_cons, if_pos (by simpa using e)]
      simp only [List.length_cons, List.getD_cons_succ]
      exact ⟨by omega, ih.2⟩
    · have hak : a = k := by
        rcases List.mem_cons.1 hk with q | q
        · exact q.symm
        · have := h.1 k q; omega
      have hn : l.filter (fun z => decide (z < k)) = [] := List.filter_eq_nil_iff.2 fun z hz => by
        have := h.1 z hz; simp; omega
      rw [List.filter_cons, if_neg (by simpa using e), hn]
      exact ⟨by simp, by simpa using hak⟩
theorem cl_up {k : Int} : ∀ {l : List Int}, l.Pairwise (· < ·) → cl l (k + 1) = cl l k + if k ∈ l then 1 else 0
  | [], _ => rfl
  | a :: l, h => by
    rw [List.pairwise_cons] at h
    have ih := cl_up (k := k) h.2
    unfold cl at ih ⊢
    rw [List.filter_cons, List.filter_cons]
    by_cases e : a < k
    · rw [if_pos (by simp; omega), if_pos (by simpa using e), List.length_cons, List.length_cons, ih]
      simp only [List.mem_cons, show ¬ k = a by omega, false_or]
      omega
    · by_cases e2 : a = k
      · subst e2
        have hna : a ∉ l := fun q => by have := h.1 a q; omega
        rw [if_neg hna] at ih
        rw [if_pos (by simp; omega), if_neg (by simp), List.length_cons, ih]
        simp
      · rw [if_neg (by simp; omega), if_neg (by simpa using e), ih]
        simp only [List.mem_cons, show ¬ k = a by omega, false_or]
theorem cl_zero {l : List Int} (h : ∀ z ∈ l, 0 ≤ z) : cl l 0 = 0 := by
  unfold cl
  rw [List.filter_eq_nil_iff.2 fun z hz => by have := h z hz; simp; omega]; rfl
theorem cl_all {l : List Int} {n : Int} (h : ∀ z ∈ l, z < n) : cl l n = l.length := by
  unfold cl
  rw [List.filter_eq_self.2 fun z hz => by have := h z hz; simpa using this]
/-! ### The best so far -/
section
variable {P : List (List Int)}
def fo (P : List (List Int)) (X : Nat → List Int) (s : Int × List Int) : Nat → Int × List Int
  | 0 => s
  | k + 1 => upd P (fo P X s k) (X k)
theorem fo_spec {X : Nat → List Int} {s : Int × List Int} : ∀ k, (∀ i, i < k + 1 → X i ≠ [] ∧ 0 ≤ lenL P (X i)) → fo P X s (k + 1) = upd P s (mn X P (k + 1))
  | 0, h => by rw [mn_one]; rfl
  | k + 1, h => by
    have ih := fo_spec (s := s) k fun i hi => h i (by omega)
    have hne := mn_ne (g := P) (X := X) (k := k) fun i hi => (h i (by omega)).1
    have h0 := (h (k + 1) (by omega)).2
    obtain ⟨i, hi, hmi, _⟩ := mn_spec (g := P) (X := X) k fun i hi => (h i (by omega)).1
    have h1 := (h i (by omega)).2
    rw [← hmi] at h1
    rw [fo, ih, mn_succ' hne]
    generalize mn X P (k + 1) = T at h1
    unfold upd
    by_cases c1 : s.1 < 0 ∨ lenL P T < s.1
    · rw [if_pos c1]
      dsimp only
      by_cases c2 : lenL P (X (k + 1)) < lenL P T
      · rw [if_pos (.inr c2), if_pos c2, if_pos (by omega)]
      · rw [if_neg (by omega), if_neg c2, if_pos c1]
    · rw [if_neg c1]
      by_cases c2 : lenL P (X (k + 1)) < lenL P T
      · rw [if_pos c2]
      · rw [if_neg c2, if_neg c1, if_neg (by omega)]
theorem upd_no {s : Int × List Int} {T : List Int} (h1 : 0 ≤ s.1) (h2 : s.1 ≤ lenL P T) : upd P s T = s := by
  unfold upd; rw [if_neg (by omega)]
theorem stp_last {order : List Int} (ho : ∀ z ∈ order, 0 ≤ z) (k : Int) : stp P ((-1 :: order).getD ((-1 :: order).length - 1) 0) k = mvN (lastP P order) (P.getD k.toNat []) := by
  unfold lastP
  cases order with
  | nil =>
    unfold stp mvN
    simp only [List.length_singleton, Nat.sub_self, List.getD_cons_zero, if_true]
    rw [if_pos (by omega)]
    have hf : ((P.getD k.toNat []).filter fun x => decide (x ∉ ([] : List Int))) = P.getD k.toNat [] := List.filter_eq_self.2 fun x _ => by simp
    rw [hf]
  | cons a r =>
    have h1 : (-1 :: a :: r).getD ((-1 :: a :: r).length - 1) 0 = (a :: r).getD ((a :: r).length - 1) 0 := by simp [List.getD]
    have h2 := ho _ (getD_mem (l := a :: r) (d := 0) (n := (a :: r).length - 1) (by simp))
    rw [h1, if_neg (by simp)]
    unfold stp
    rw [if_neg (by omega)]
theorem Sq.rng {m : Nat} {es : List (Int × List C)} {cost o : Int} {os us : List (List C)} {order left : List Int} (q : Sq m P es cost o os us order left) : (∀ z ∈ order ++ left, 0 ≤ z ∧ z < P.length) ∧ (∀ k : Nat, k < P.length → (k : Int) ∈ order ++ left) ∧ (order ++ left).Nodup ∧ order.length + left.length = P.length := by
  refine ⟨fun z hz => ?_, fun k hk => ?_, ?_, ?_⟩
  · obtain ⟨i, hi, rfl⟩ := List.mem_map.1 (q.hp.subset hz)
    have := List.mem_range.1 hi; omega
  · exact q.hp.symm.subset (List.mem_map.2 ⟨k, List.mem_range.2 hk, rfl⟩)
  · refine q.hp.nodup_iff.2 ?_
    exact List.pairwise_map.2 (List.Pairwise.imp (fun h e => h (by omega)) List.nodup_range)
  · have := q.hp.length_eq; simp at this; exact this
theorem Sq.inG {m : Nat} {es : List (Int × List C)} {cost o : Int} {os us : List (List C)} {order left : List Int} (q : Sq m P es cost o os us order left) : V.inG P ((-1 :: order) ++ left) := by
  intro z hz
  rw [List.cons_append] at hz
  rcases List.mem_cons.1 hz with rfl | hz
  · omega
  · have := q.rng.1 z hz; omega
end
theorem take_rows {xs : List (List C)} {w : List Int} {n : Nat} (h : xs.take w.length = rowsI w) (hn : n < w.length) : (cellAt xs n 0).gi = w.getD n 0 := by
  rw [← rowsI_getD, ← h]
  unfold cellAt
  simp only [List.getD_eq_getElem?_getD]
  rw [List.getElem?_take, if_pos hn]
theorem take_step {xs2 : List (List C)} {w : List Int} {a : Int} (h2 : xs2.take (w ++ [a]).length = rowsI (w ++ [a])) : xs2.take w.length = rowsI w := by
  have e : xs2.take w.length = (xs2.take (w ++ [a]).length).take w.length := by rw [List.take_take]; congr 1; simp
  rw [e, h2, rowsI_append]
  exact List.take_left' (rowsI_len w)
def tbl31 : FuncId → List A → List C := fun f ds => match f with
  | 28 => S28 ds
  | _ => []
theorem ac31 {nR : Nat} {x1 : List (Int × List C)} {x2 : Int} {x3 : Int} {x10 : Int} {x4 : Int} {x5 : List (List C)} {x6 : List (List C)} {x7 : List (List C)} {x8 : Int} {x9 : List (List C)} (ce31 : SeqC nR Try.prog 31) (ce32 : CloneCO 3 [.int .i64] Try.prog 32) {Q0 : (Int) → (Int) → (Int) → (List (List C)) → (List (List C)) → (List (List C)) → Prop} (h : vc31 (stdE Try.prog tbl31) nR x1 x2 x3 x10 x4 x5 x6 x7 x8 x9 Q0) : ACalls Try.prog 31 [.c (.mp .i64 false [.bool] x1), .c (.int .i64 x2), .ptr 0 0, .ptr 1 0, .ptr 3 0, .ptr 4 0, .ptr 5 0, .ptr 7 0] [.box 3 [.c (.int .i64 x3)], .box 22 [.own 2 x10 x4], .arr 3 [.int .i64] x5, .box 54 [.c (.sl [.mp .i64 false [.bool]] x6)], .box 22 [.c (.sl [.int .i64] x7)], .box 57 [.own 6 0 x8], .arr 4 [.bool] x9, .box 58 [.fn 31 [.ptr 0 0, .ptr 1 0, .ptr 3 0, .ptr 4 0, .ptr 5 0, .ptr 7 0]]] fun r H' => (∃ i1 : Int, ∃ i2 : Int, ∃ i3 : Int, ∃ l4 : List (List C), ∃ l5 : List (List C), ∃ l6 : List (List C), Q0 i1 i2 i3 l4 l5 l6 ∧ r = .tup [] ∧ H' = [.box 3 [.c (.int .i64 i1)], .box 22 [.own 2 i2 i3], .arr 3 [.int .i64] l4, .box 54 [.c (.sl [.mp .i64 false [.bool]] x6)], .box 22 [.c (.sl [.int .i64] l5)], .box 57 [.own 6 0 x8], .arr 4 [.bool] l6, .box 58 [.fn 31 [.ptr 0 0, .ptr 1 0, .ptr 3 0, .ptr 4 0, .ptr 5 0, .ptr 7 0]]]) := ACalls_vc mo h31 (w31 ce31 ce32 h)
theorem seqG {m : Nat} (ih : SeqC m Try.prog 31) {es : List (Int × List C)} {cost least oo o : Int} {os ss best' : List (List C)} {un : Int} {us : List (List C)} {K : Int → Int → Int → List (List C) → List (List C) → List (List C) → Prop} (h : spSq (m + 1) es cost least oo o os ss best' un us K) :
    vc31 (stdE Try.prog tbl31) m es cost least oo o os ss best' un us K := by
  obtain ⟨P, order, left, b, rfl, rfl, rfl, q, rfl, hk⟩ := h
  obtain ⟨r1, r2, r3, r4⟩ := q.rng
  have hin := q.inG
  have hP := q.hP
  have ho := q.ho; have hc := q.hc; have h8 := q.h8; have hl8 := q.hl
  have hge := best_ge hP (n := left.length) (b := -1 :: order) rfl (by simp) hin
  have hcb := lenL_ok hP (-1 :: order) fun z hz => hin z (List.mem_append.2 (.inl hz))
  unfold vc31
  simp only [stdE, baseE, Br_iff, Imp_iff, tbl31, forall_eq, rowM_len, decide_eq_true_eq, decide_eq_false_iff_not, beq_iff_eq, beq_eq_false_iff_ne]
  refine ⟨fun h1 => ?_, fun h1 => ⟨fun h2 => ?_, fun h2 => ?_⟩⟩
  · have h1' : 0 ≤ least ∧ least ≤ cost := by
      by_cases q1 : 0 ≤ least
      · rw [if_pos q1] at h1; exact ⟨q1, of_decide_eq_true h1⟩
      · rw [if_neg q1] at h1; cases h1
    have := hk os rfl q.hx
    rw [upd_no (s := (least, -1 :: b)) h1'.1 (by dsimp only; omega)] at this
    exact this
  · have h1' : least < 0 ∨ cost < least := by
      by_cases q1 : 0 ≤ least
      · rw [if_pos q1] at h1; have := of_decide_eq_false h1; omega
      · omega
    have hl0 : left = [] := List.length_eq_zero_iff.1 (by omega)
    subst hl0
    refine ⟨Int.le_refl _, by omega, by omega, by omega, ?_⟩
    have := hk os rfl q.hx
    rw [best_nil] at this
    have hu : upd P (least, -1 :: b) (-1 :: order) = (lenL P (-1 :: order), -1 :: order) := by unfold upd; rw [if_pos (by dsimp only; omega)]
    rw [hu, ← hc] at this
    rw [show (0 + o).toNat = order.length by omega, q.hx]
    exact this
  obtain ⟨X, hX⟩ : ∃ X, X = cho P (left.length - 1) (-1 :: order) left := ⟨_, rfl⟩
  have hpos : 0 < left.length := by omega
  have hne : left ≠ [] := List.length_pos_iff.1 hpos
  have hXe : ∀ i, i < left.length → X i = best P (left.eraseIdx i).length ((-1 :: order) ++ [left.getD i 0]) (left.eraseIdx i) := fun i hi => by
    rw [hX, List.length_eraseIdx_of_lt hi]; rfl
  have hXi : ∀ i, i < left.length → X i ≠ [] ∧ 0 ≤ lenL P (X i) := fun i hi => by
    rw [hXe i hi]
    refine ⟨best_ne rfl (by simp), ?_⟩
    refine (lenL_ok hP _ (best_in rfl (by simp) fun z hz => hin z ?_)).1
    rcases List.mem_append.1 hz with hz | hz
    · rcases List.mem_append.1 hz with hz | hz
      · exact List.mem_append.2 (.inl hz)
      · simp only [List.mem_singleton] at hz; subst hz; exact List.mem_append.2 (.inr (getD_mem hi))
    · exact List.mem_append.2 (.inr (List.eraseIdx_subset hz))
  have hbest : best P left.length (-1 :: order) left = mn X P left.length := by
    rw [show left.length = left.length - 1 + 1 by omega, best_succ, if_neg hne, ← hX, show left.length - 1 + 1 = left.length by omega]
  have hfin : fo P X (least, -1 :: b) left.length = upd P (least, -1 :: b) (best P left.length (-1 :: order) left) := by
    rw [hbest, show left.length = left.length - 1 + 1 by omega]
    exact fo_spec _ fun i hi => hXi i (by omega)
  rw [← hfin] at hk
  have hord0 : ∀ z ∈ order, 0 ≤ z := fun z hz => (r1 z (by simp [hz])).1
  have hleft : ∀ z ∈ left, 0 ≤ z ∧ z < P.length := fun z hz => r1 z (by simp [hz])
  refine LoopP7.run (x1 := least) (x2 := 0) (x3 := o) (x4 := os) (x5 := rowsI b) (x6 := us) (x7 := 0) (fun p : List (List C) × Nat => (fo P X (least, -1 :: b) (cl left p.2)).1) (fun p => 0) (fun p => o) (fun p => p.1) (fun p => rowsI (fo P X (least, -1 :: b) (cl left p.2)).2.tail) (fun p => us) (fun p => (p.2 : Int))
    (fun p => p.2 ≤ P.length ∧ p.1.length = os.length ∧ p.1.take order.length = rowsI order) (fun p => P.length - p.2) (os, 0) ⟨Nat.zero_le _, rfl, q.hx⟩ ?_ rfl rfl rfl ?_ rfl rfl ?_
  · have : cl left ((0 : Nat) : Int) = 0 := cl_zero fun z hz => (hleft z hz).1
    dsimp only
    rw [this]; rfl
  · have : cl left ((0 : Nat) : Int) = 0 := cl_zero fun z hz => (hleft z hz).1
    dsimp only
    rw [this]; rfl
  rintro ⟨ws, k⟩ ⟨k1, k2, k3⟩ K15 hK15
  dsimp only at k1 k2 k3 ⊢
  refine ⟨fun h3 => ⟨by omega, by omega, ?_⟩, fun h3 => ?_⟩
  · have hkP : k < P.length := by omega
    have hup := cl_up (k := (k : Int)) q.hs
    rw [show (0 + (k : Int)).toNat = k by omega, q.hu, usR_cell _ hkP]
    refine ⟨fun h4 => ?_, fun h4 => ?_⟩
    · have h4 := of_decide_eq_true h4
      have hnl : (k : Int) ∉ left := fun h5 => (List.nodup_append.1 r3).2.2 _ h4 _ h5 rfl
      rw [if_neg hnl] at hup
      refine hK15 _ _ _ _ _ _ _ (ws, k + 1) ⟨hkP, k2, k3⟩ (by dsimp only; omega) ?_ rfl rfl rfl ?_ q.hu.symm (wrap_up rfl (by omega))
      · dsimp only; rw [show ((k + 1 : Nat) : Int) = (k : Int) + 1 by simp, hup]; rfl
      · dsimp only; rw [show ((k + 1 : Nat) : Int) = (k : Int) + 1 by simp, hup]; rfl
    · have h4 := of_decide_eq_false h4
      have hml : (k : Int) ∈ left := by
        rcases List.mem_append.1 (r2 k hkP) with h5 | h5
        · exact absurd h5 h4
        · exact h5
      rw [if_pos hml] at hup
      obtain ⟨c1, c2⟩ := cl_mem q.hs hml
      obtain ⟨c, hcc⟩ : ∃ c, cl left (k : Int) = c := ⟨_, rfl⟩
      rw [hcc] at c1 c2 hup ⊢
      have hPk := okG_at hP k
      have hcell : (cellAt (rowM P) (k : Int).toNat 0).gm = mpL (P.getD k []) := by rw [Int.toNat_natCast]; exact rowM_cell P k hkP
      have hst : stp P ((-1 :: order).getD ((-1 :: order).length - 1) 0) (k : Int) = mvN (lastP P order) (P.getD k []) := by rw [stp_last hord0, Int.toNat_natCast]
      have hmv := mvN_le (lastP P order) (P.getD k [])
      have hlen2 : lenL P ((-1 :: order) ++ [(k : Int)]) = cost + mvN (lastP P order) (P.getD k []) := by rw [lenL_snoc _ _ (by simp), hst, hc]
      simp only [hcell, q.he]
      have hP8 : ∀ p ∈ P, p.length ≤ 13 := hP
      simp only [List.length_cons] at hcb
      push_cast at hcb
      refine ⟨by simp; omega, p28 _ (by omega), ?_⟩
      rw [e28, List.getD_cons_zero, gi_int, wrap_in (n := cost + mvN (lastP P order) (P.getD k [])) (by omega) (by omega), usR_upd hkP]
      refine ⟨P, order ++ [(k : Int)], left.eraseIdx c, (fo P X (least, -1 :: b) c).2.tail, rfl, rfl, rfl, ⟨by rw [List.length_eraseIdx_of_lt c1]; have := q.hm; omega, by simp; omega, ?_, ?_, h8, ?_, q.hs.sublist (List.eraseIdx_sublist _ _), rfl, ?_, ?_, hP⟩, rfl, fun ws2 g1 g2 => ?_⟩
      · have e1 : (0 + o).toNat = order.length := by omega
        rw [e1, Int.toNat_zero, List.drop_zero, k3, ← List.append_assoc]
        rw [show rowsI order ++ [[C.int IntKind.i64 (k : Int)]] = rowsI (order ++ [(k : Int)]) by rw [rowsI_append]; rfl]
        exact List.take_left' (rowsI_len _)
      · have e1 : (0 + o).toNat = order.length := by omega
        rw [e1, Int.toNat_zero, List.drop_zero]
        simp
        omega
      · refine List.Perm.trans ?_ q.hp
        rw [List.append_assoc]
        refine List.Perm.append_left order ?_
        have := erase_permI left c c1
        rw [c2] at this
        simpa using this
      · congr 1
        unfold lastP
        rw [if_neg (by simp)]
        simp
      · rw [← hlen2]; simp
      · refine ⟨Int.le_refl 0, ?_⟩
        have hrest : (-1 :: (order ++ [(k : Int)])) = (-1 :: order) ++ [left.getD c 0] := by rw [c2]; rfl
        have hsc : ((fo P X (least, -1 :: b) c).1, -1 :: (fo P X (least, -1 :: b) c).2.tail) = fo P X (least, -1 :: b) c := by
          have key : ∀ c, c ≤ left.length → ∃ t, (fo P X (least, -1 :: b) c).2 = -1 :: t := by
            intro c
            induction c with
            | zero => intro _; exact ⟨b, rfl⟩
            | succ c ihc =>
              intro hc2
              rw [fo]
              unfold upd
              split
              · dsimp only
                rw [hXe c (by omega)]
                obtain ⟨r, er, _⟩ := best_spec (g := P) (left.eraseIdx c).length ((-1 :: order) ++ [left.getD c 0]) (left.eraseIdx c) rfl (by simp)
                rw [er]; exact ⟨_, rfl⟩
              · exact ihc (by omega)
          obtain ⟨t, ht⟩ := key c (by omega)
          rw [Prod.ext_iff]
          exact ⟨rfl, by rw [ht]; rfl⟩
        rw [hrest, ← hXe c c1, hsc]
        have hs2 : upd P (fo P X (least, -1 :: b) c) (X c) = fo P X (least, -1 :: b) (c + 1) := rfl
        rw [hs2]
        have ew : IntKind.i64.wrap (o + (([[C.int IntKind.i64 (k : Int)]].length : Nat) : Int) - 1) = o := by rw [List.length_singleton, wrap_in (by omega) (by omega)]; omega
        have hlen3 : ws2.length = os.length := by
          rw [g1]
          have e1 : (0 + o).toNat = order.length := by omega
          rw [e1, Int.toNat_zero, List.drop_zero]
          simp
          omega
        rw [ew]
        refine ⟨by omega, by omega, ?_⟩
        rw [usR_dn hkP h4]
        refine hK15 _ _ _ _ _ _ _ (ws2, k + 1) ⟨hkP, hlen3, take_step g2⟩ (by dsimp only; omega) ?_ rfl (by omega) rfl ?_ q.hu.symm (wrap_up rfl (by omega))
        · dsimp only; rw [show ((k + 1 : Nat) : Int) = (k : Int) + 1 by simp, hup]
        · dsimp only; rw [show ((k + 1 : Nat) : Int) = (k : Int) + 1 by simp, hup]
  · have : k = P.length := by omega
    subst this
    have hca := cl_all (l := left) (n := (P.length : Int)) fun z hz => (hleft z hz).2
    rw [hca]
    exact hk ws k2 k3
end Go.Proofs.Ytjmgphobpgajbaa.V
