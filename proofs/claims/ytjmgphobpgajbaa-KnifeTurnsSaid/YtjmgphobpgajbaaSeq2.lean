/- Knives: orders and their costs, in the program. No conditions. -/
import Derived.Test.YtjmgphobpgajbaaSeqP
set_option linter.unusedVariables false
set_option linter.unusedSimpArgs false
namespace Go.Proofs.Ytjmgphobpgajbaa.V
open Go Go.Eng
set_option maxRecDepth 1000000
set_option maxHeartbeats 1000000
theorem seqC : ∀ m, SeqC m Try.prog 31
  | 0 => ⟨fnR_body h31 (by kernel_rfl), fun es cost least oo o os ss best' un us K ⟨P, order, left, b, _, _, _, q, _⟩ => absurd q.hm (Nat.not_lt_zero _), fun cost least oo o os ss un us K ⟨P, order, left, _, _, _, q, _⟩ => absurd q.hm (Nat.not_lt_zero _)⟩
  | m + 1 => by
    have ih := seqC m
    have hG : ∀ (es : List (Int × List C)) (cost least oo o : Int) (os ss best' : List (List C)) (un : Int) (us : List (List C)) (K : Int → Int → Int → List (List C) → List (List C) → List (List C) → Prop), spSq (m + 1) es cost least oo o os ss best' un us K →
        ACalls Try.prog 31 [.c (.mp .i64 false [.bool] es), iC cost, .ptr 0 0, .ptr 1 0, .ptr 3 0, .ptr 4 0, .ptr 5 0, .ptr 7 0]
          [.box 3 [iC least], .box 22 [.own 2 oo o], .arr 3 [.int .i64] os, .box 54 [.c (.sl [.mp .i64 false [.bool]] ss)], .box 22 [.c (.sl [.int .i64] best')], .box 57 [.own 6 0 un], .arr 4 [.bool] us, .box 58 [.fn 31 [.ptr 0 0, .ptr 1 0, .ptr 3 0, .ptr 4 0, .ptr 5 0, .ptr 7 0]]]
          fun r H' => ∃ i1 i2 i3 l1 l2 l3, K i1 i2 i3 l1 l2 l3 ∧ r = .tup [] ∧ H' = [.box 3 [iC i1], .box 22 [.own 2 i2 i3], .arr 3 [.int .i64] l1, .box 54 [.c (.sl [.mp .i64 false [.bool]] ss)], .box 22 [.c (.sl [.int .i64] l2)], .box 57 [.own 6 0 un], .arr 4 [.bool] l3, .box 58 [.fn 31 [.ptr 0 0, .ptr 1 0, .ptr 3 0, .ptr 4 0, .ptr 5 0, .ptr 7 0]]] :=
      fun es cost least oo o os ss best' un us K h => ac31 ih cloneco32 (Q0 := K) (seqG ih h)
    refine ⟨fnR_body h31 (by kernel_rfl), hG, fun cost least oo o os ss un us K ⟨P, order, left, h1, h2, h3, q, hk⟩ => ?_⟩
    have h := hG [] cost least oo o os ss [] un us K ⟨P, order, left, [], h1, h2, h3, q, rfl, hk⟩
    refine ACalls.pre (GSt.trans (GSt.nilMp 0 .i64 false [.bool] rfl rfl) (GSt.nilBoxSl 4 0 [.int .i64] rfl rfl)) ?_
    exact h
/-! ### All of the patterns -/
def firE (w e t k : Int) (ss : List Int) : List (List Int) → Int
  | [] => 0
  | c :: r => if fitsE w e t k ss c ≠ 0 then fitsE w e t k ss c else firE w e t k ss r
def allE (w e t k : Int) (ss : List Int) (l : List (List Int)) : Int := if chkE w e t k ss ≠ 0 then chkE w e t k ss else if 8 < l.length then 8 else firE w e t k ss l
def allP (w e t k : Int) (ss : List Int) (l : List (List Int)) : List (List Int) := l.map (knL w e t k ss)
theorem allP_len (w e t k : Int) (ss : List Int) (l : List (List Int)) : (allP w e t k ss l).length = l.length := by simp [allP]
theorem allP_ok (w e t k : Int) (ss : List Int) (l : List (List Int)) : (∀ p ∈ allP w e t k ss l, p.Pairwise (· < ·)) ∧ okG (allP w e t k ss l) := by
  refine ⟨fun p hp => ?_, fun p hp => ?_⟩ <;>
  · obtain ⟨c, _, rfl⟩ := List.mem_map.1 hp
    first | exact (knL_lt w e t k ss c).1 | exact (knL_lt w e t k ss c).2
theorem allE_ok {w e t k : Int} {ss : List Int} {l : List (List Int)} (h : allE w e t k ss l = 0) : l.length ≤ 8 := by
  unfold allE at h
  split at h
  · rename_i q; exact absurd h q
  · split at h
    · cases h
    · omega
abbrev kLM : Bool × List LK := (false, [.sl [.mp .i64 false [.bool]]])
def S30 : List A → List C := fun ds => match ds with
  | [.agg [.c (.int _ w), .c (.int _ e), .c (.int _ t), .c (.int _ k), .c (.sl _ xs)], .c (.sl _ l)] => [.sl [.mp .i64 false [.bool]] (if allE w e t k (prI xs) (unL l) = 0 then rowM (allP w e t k (prI xs) (unL l)) else []), .int .i64 (allE w e t k (prI xs) (unL l))]
  | _ => []
theorem e30 (w e t k : Int) (ss : List Int) (l : List (List Int)) : S30 [dk w e t k ss, sL (rowL l)] = [.sl [.mp .i64 false [.bool]] (if allE w e t k ss l = 0 then rowM (allP w e t k ss l) else []), .int .i64 (allE w e t k ss l)] := by
  show [C.sl [.mp .i64 false [.bool]] (if allE w e t k (prI (rowsI ss)) (unL (rowL l)) = 0 then rowM (allP w e t k (prI (rowsI ss)) (unL (rowL l))) else []), C.int .i64 (allE w e t k (prI (rowsI ss)) (unL (rowL l)))] = _
  rw [prI_rowsI, unL_rowL]
theorem getD_l {l : List (List Int)} {n : Nat} {N : Nat} (hl : ∀ c ∈ l, c.length ≤ N) : (l.getD n []).length ≤ N := by
  by_cases h : n < l.length
  · exact hl _ (getD_mem h)
  · simp [List.getD, show l.length ≤ n by omega]
def tbl30 : FuncId → List A → List C := fun f ds => match f with
  | 24 => S24 ds
  | 42 => S42 ds
  | _ => []
theorem pc30  {x1 : Int} {x2 : Int} {x3 : Int} {x4 : Int} {x5 : List (List C)} {x6 : List (List C)} {row : List C} (hS : S30 [.agg [.c (.int .i64 x1), .c (.int .i64 x2), .c (.int .i64 x3), .c (.int .i64 x4), .c (.sl [.int .i64] x5)], .c (.sl [.sl [.int .i64]] x6)] = row) (h : vc30 (stdE Try.prog tbl30) x1 x2 x3 x4 x5 x6 fun c => c = row) : PCg Try.prog 30 S30 [(false, [.sl [.mp .i64 false [.bool]]]), (false, [.int .i64])] [.agg [.c (.int .i64 x1), .c (.int .i64 x2), .c (.int .i64 x3), .c (.int .i64 x4), .c (.sl [.int .i64] x5)], .c (.sl [.sl [.int .i64]] x6)] := PureC_vc mo h30 (by kernel_rfl) hS (w30  h)
theorem p30 (w e t k : Int) (ss : List Int) {l : List (List Int)} (hl : ∀ c ∈ l, c.length ≤ 1000000) : PCg Try.prog 30 S30 [kLM, kI] [dk w e t k ss, sL (rowL l)] := by
  refine pc30 (e30 ..) ?_
  unfold vc30
  simp only [stdE, baseE, Br_iff, tbl30, forall_eq, rowL_len, rowL_cell]
  simp only [p42, true_and]
  simp only [e42, List.getD_cons_zero, gi_int, Bool.not_eq_true', Bool.not_eq_false', beq_iff_eq, beq_eq_false_iff_ne, decide_eq_true_eq, decide_eq_false_iff_not]
  have hR : ∀ n : Int, allE w e t k ss l = n → n ≠ 0 → [C.sl [.mp .i64 false [.bool]] [], C.int .i64 n] = [.sl [.mp .i64 false [.bool]] (if allE w e t k ss l = 0 then rowM (allP w e t k ss l) else []), .int .i64 (allE w e t k ss l)] := fun n h1 h2 => by
    rw [if_neg (by rw [h1]; exact h2), h1]
  refine ⟨fun h => hR _ (by rw [allE, if_pos h]) h, fun h => ⟨fun h2 => hR _ (by rw [allE, if_neg (fun q => q h), if_pos (by omega)]) (by decide), fun h2 => ?_⟩⟩
  have hE : allE w e t k ss l = firE w e t k ss l := by rw [allE, if_neg (fun q => q h), if_neg (by omega)]
  refine LoopP2.run (x1 := []) (x2 := 0) (fun n : Nat => rowM (allP w e t k ss (l.take n))) (fun n => (n : Int)) (fun n => n ≤ l.length ∧ firE w e t k ss (l.drop n) = firE w e t k ss l) (fun n => l.length - n) 0 ⟨Nat.zero_le _, rfl⟩ rfl rfl ?_
  rintro n ⟨hn, hf⟩ K hK
  have hc : (l.getD n []).length ≤ 1000000 := getD_l hl
  simp only [toNat_cast]
  refine ⟨fun q => ⟨by omega, p24 w e t k ss hc, ?_⟩, fun q => ?_⟩
  · have hlt : n < l.length := by omega
    rw [List.drop_eq_getElem_cons hlt, firE, ← getD_get (d := []) hlt] at hf
    simp only [e24, List.getD_cons_zero, List.getD_cons_succ, gi_int, gm_mp]
    refine ⟨fun q2 => ?_, fun q2 => ⟨by rw [rowM_len, allP_len]; simp; omega, ?_⟩⟩
    · rw [if_pos q2] at hf
      exact hR _ (by rw [hE, hf]) q2
    · rw [if_neg (fun q3 => q3 q2)] at hf
      refine hK _ _ (n + 1) ⟨hlt, hf⟩ (by omega) ?_ (wrap_up rfl (by omega))
      unfold allP
      rw [map_take (knL w e t k ss) l [] hlt]
      unfold rowM
      rw [List.map_append]; rfl
  · have : n = l.length := by omega
    subst this
    rw [List.drop_length] at hf
    have h0 : allE w e t k ss l = 0 := by rw [hE, ← hf]; rfl
    rw [if_pos h0, h0, List.take_length]
/-! ### The best sequence -/
def rgI (n : Nat) : List Int := (List.range n).map fun (k : Nat) => (k : Int)
theorem rgI_len (n : Nat) : (rgI n).length = n := by simp [rgI]
theorem rgI_lt (n : Nat) : (rgI n).Pairwise (· < ·) := by
  unfold rgI
  rw [List.pairwise_map]
  exact List.Pairwise.imp (fun h => by omega) List.pairwise_lt_range
theorem rgI_mem {n : Nat} {z : Int} : z ∈ rgI n ↔ 0 ≤ z ∧ z < n := by
  unfold rgI
  simp only [List.mem_map, List.mem_range]
  constructor
  · rintro ⟨i, hi, rfl⟩; omega
  · intro h; exact ⟨z.toNat, by omega, by omega⟩
def sqT (P : List (List Int)) : List Int := best P P.length [-1] (rgI P.length)
theorem sqT_spec {P : List (List Int)} (hP : okG P) : ∃ r, sqT P = -1 :: r ∧ r.Perm (rgI P.length) ∧ (∀ r', r'.Perm (rgI P.length) → lenL P (-1 :: r) ≤ lenL P (-1 :: r')) ∧ 0 ≤ lenL P (-1 :: r) ∧ lenL P (-1 :: r) ≤ 1000000 * (P.length + 1) := by
  obtain ⟨r, h1, h2, h3⟩ := best_spec (g := P) P.length [-1] (rgI P.length) (rgI_len _) (by simp)
  have hin : inG P (-1 :: r) := fun z hz => by
    rcases List.mem_cons.1 hz with e | hz
    · omega
    · have := rgI_mem.1 (h2.subset hz); omega
  have hb := lenL_ok hP _ hin
  have hl := h2.length_eq
  rw [rgI_len] at hl
  simp only [List.length_cons, hl] at hb
  push_cast at hb
  exact ⟨r, h1, h2, h3, hb.1, by omega⟩
def sqV (w e t k : Int) (ss : List Int) (l : List (List Int)) : List C :=
  if allE w e t k ss l = 0 then [.sl [.int .i64] (rowsI (sqT (allP w e t k ss l)).tail), .int .i64 (lenL (allP w e t k ss l) (sqT (allP w e t k ss l))), .int .i64 0] else [.sl [.int .i64] [], .int .i64 0, .int .i64 (allE w e t k ss l)]
def sSq : List A → List C := fun ds => match ds with
  | [.agg [.c (.int _ w), .c (.int _ e), .c (.int _ t), .c (.int _ k), .c (.sl _ xs)], .c (.sl _ l)] => sqV w e t k (prI xs) (unL l)
  | _ => []
def S17 : List A → List C := sSq
def S18 : List A → List C := sSq
theorem e17 (w e t k : Int) (ss : List Int) (l : List (List Int)) : S17 [dk w e t k ss, sL (rowL l)] = sqV w e t k ss l := by
  show sqV w e t k (prI (rowsI ss)) (unL (rowL l)) = _
  rw [prI_rowsI, unL_rowL]
theorem e18 (w e t k : Int) (ss : List Int) (l : List (List Int)) : S18 [dk w e t k ss, sL (rowL l)] = sqV w e t k ss l := e17 w e t k ss l
theorem usR_nil (n : Nat) : usR n [] = List.replicate n [.bool false] := by
  unfold usR
  refine List.ext_getElem (by simp) fun i h1 h2 => by simp
def tbl17 : FuncId → List A → List C := fun f ds => match f with
  | 30 => S30 ds
  | _ => []
theorem pc17 (ce31 : SeqC 9 Try.prog 31) {x1 : Int} {x2 : Int} {x3 : Int} {x4 : Int} {x5 : List (List C)} {x6 : List (List C)} {row : List C} (hS : S17 [.agg [.c (.int .i64 x1), .c (.int .i64 x2), .c (.int .i64 x3), .c (.int .i64 x4), .c (.sl [.int .i64] x5)], .c (.sl [.sl [.int .i64]] x6)] = row) (h : vc17 (stdE Try.prog tbl17) x1 x2 x3 x4 x5 x6 fun c => c = row) : PCg Try.prog 17 S17 [(false, [.sl [.int .i64]]), (false, [.int .i64]), (false, [.int .i64])] [.agg [.c (.int .i64 x1), .c (.int .i64 x2), .c (.int .i64 x3), .c (.int .i64 x4), .c (.sl [.int .i64] x5)], .c (.sl [.sl [.int .i64]] x6)] := PureC_vc mo h17 (by kernel_rfl) hS (w17 ce31 h)
theorem p17 (w e t k : Int) (ss : List Int) {l : List (List Int)} (hl : ∀ c ∈ l, c.length ≤ 1000000) : PCg Try.prog 17 S17 [kL, kI, kI] [dk w e t k ss, sL (rowL l)] := by
  refine pc17 (seqC 9) (e17 ..) ?_
  unfold vc17 spSn
  simp only [stdE, baseE, Br_iff, tbl17, forall_eq]
  simp only [p30 w e t k ss hl, true_and]
  simp only [e30, List.getD_cons_zero, List.getD_cons_succ, gi_int, gl_sl, Bool.not_eq_true', Bool.not_eq_false', beq_iff_eq, beq_eq_false_iff_ne, decide_eq_true_eq, decide_eq_false_iff_not]
  refine ⟨fun h => ?_, fun h => ?_⟩
  · rw [sqV, if_neg h]
  have h8 := allE_ok h
  obtain ⟨P, hPe⟩ : ∃ P, allP w e t k ss l = P := ⟨_, rfl⟩
  have hPl : P.length = l.length := by rw [← hPe, allP_len]
  have hP : okG P := by rw [← hPe]; exact (allP_ok w e t k ss l).2
  rw [sqV, if_pos h, if_pos h, hPe, rowM_len]
  obtain ⟨r, t1, t2, t3, t4, t5⟩ := sqT_spec hP
  refine ⟨by omega, Int.le_refl _, by omega, by decide, by decide, by decide, P, [], rgI P.length, rfl, rfl, ⟨by rw [rgI_len]; omega, rfl, rfl, by simp, by omega, List.Perm.refl _, rgI_lt _, ?_, rfl, rfl, hP⟩, fun os' _ _ => ?_⟩
  · rw [usR_nil, Int.toNat_natCast]
  · have hT : best P (rgI P.length).length [-1] (rgI P.length) = -1 :: r := by rw [rgI_len]; exact t1
    have hu : upd P (-1, [-1]) (-1 :: r) = (lenL P (-1 :: r), -1 :: r) := by unfold upd; rw [if_pos (.inl (by decide))]
    rw [hT, hu, t1, if_neg (by dsimp only; omega)]
/-! ### The cost of an order -/
def vO (n : Nat) (w : List Int) : Prop := (∀ z ∈ w, 0 ≤ z ∧ z < n) ∧ w.Nodup
instance (n : Nat) (w : List Int) : Decidable (vO n w) := inferInstanceAs (Decidable (_ ∧ _))
def csV (w e t k : Int) (ss : List Int) (l : List (List Int)) (o : List Int) : List C :=
  if allE w e t k ss l ≠ 0 then [.int .i64 0, .int .i64 (allE w e t k ss l)] else if o.length ≠ l.length then [.int .i64 0, .int .i64 3] else if vO l.length o then [.int .i64 (lenL (allP w e t k ss l) (-1 :: o)), .int .i64 0] else [.int .i64 0, .int .i64 3]
def sCs : List A → List C := fun ds => match ds with
  | [.agg [.c (.int _ w), .c (.int _ e), .c (.int _ t), .c (.int _ k), .c (.sl _ xs)], .c (.sl _ l), .c (.sl _ o)] => csV w e t k (prI xs) (unL l) (prI o)
  | _ => []
def S19 : List A → List C := sCs
def S20 : List A → List C := sCs
theorem e19 (w e t k : Int) (ss : List Int) (l : List (List Int)) (o : List Int) : S19 [dk w e t k ss, sL (rowL l), sI (rowsI o)] = csV w e t k ss l o := by
  show csV w e t k (prI (rowsI ss)) (unL (rowL l)) (prI (rowsI o)) = _
  rw [prI_rowsI, prI_rowsI, unL_rowL]
theorem e20 (w e t k : Int) (ss : List Int) (l : List (List Int)) (o : List Int) : S20 [dk w e t k ss, sL (rowL l), sI (rowsI o)] = csV w e t k ss l o := e19 w e t k ss l o
theorem vO_take {n : Nat} {w : List Int} (h : vO n w) (m : Nat) : vO n (w.take m) := ⟨fun z hz => h.1 z (mem_take hz), h.2.sublist (List.take_sublist _ _)⟩
theorem lenL_up {P : List (List Int)} {o : List Int} {n : Nat} (hn : n < o.length) (ho : ∀ z ∈ o.take n, 0 ≤ z) : lenL P (-1 :: o.take (n + 1)) = lenL P (-1 :: o.take n) + mvN (lastP P (o.take n)) (P.getD (o.getD n 0).toNat []) := by
  have e1 : (-1 :: o.take (n + 1)) = (-1 :: o.take n) ++ [o.getD n 0] := by rw [take_s hn]; rfl
  rw [e1, lenL_snoc _ _ (by simp), stp_last ho]
theorem vO_bd {P : List (List Int)} (hP : okG P) {o : List Int} (ho : ∀ z ∈ o, 0 ≤ z ∧ z < P.length) : 0 ≤ lenL P (-1 :: o) ∧ lenL P (-1 :: o) ≤ 1000000 * (o.length + 1) := by
  have := lenL_ok hP (-1 :: o) fun z hz => by
    rcases List.mem_cons.1 hz with e | hz
    · omega
    · have := ho z hz; omega
  simp only [List.length_cons] at this
  push_cast at this
  exact ⟨this.1, by omega⟩
theorem lastP_up {P : List (List Int)} {o : List Int} {n : Nat} (hn : n < o.length) : lastP P (o.take (n + 1)) = P.getD (o.getD n 0).toNat [] := by
  unfold lastP
  rw [if_neg (by rw [take_s hn]; simp), take_s hn]
  have : (o.take n).length = n := by simp; omega
  simp [List.getD, this]
def tbl19 : FuncId → List A → List C := fun f ds => match f with
  | 28 => S28 ds
  | 30 => S30 ds
  | _ => []
theorem pc19  {x1 : Int} {x2 : Int} {x3 : Int} {x4 : Int} {x5 : List (List C)} {x6 : List (List C)} {x7 : List (List C)} {row : List C} (hS : S19 [.agg [.c (.int .i64 x1), .c (.int .i64 x2), .c (.int .i64 x3), .c (.int .i64 x4), .c (.sl [.int .i64] x5)], .c (.sl [.sl [.int .i64]] x6), .c (.sl [.int .i64] x7)] = row) (h : vc19 (stdE Try.prog tbl19) x1 x2 x3 x4 x5 x6 x7 fun c => c = row) : PCg Try.prog 19 S19 [(false, [.int .i64]), (false, [.int .i64])] [.agg [.c (.int .i64 x1), .c (.int .i64 x2), .c (.int .i64 x3), .c (.int .i64 x4), .c (.sl [.int .i64] x5)], .c (.sl [.sl [.int .i64]] x6), .c (.sl [.int .i64] x7)] := PureC_vc mo h19 (by kernel_rfl) hS (w19  h)
theorem p19 (w e t k : Int) (ss : List Int) {l : List (List Int)} (hl : ∀ c ∈ l, c.length ≤ 1000000) (o : List Int) : PCg Try.prog 19 S19 [kI, kI] [dk w e t k ss, sL (rowL l), sI (rowsI o)] := by
  refine pc19 (e19 ..) ?_
  unfold vc19
  simp only [stdE, baseE, Br_iff, tbl19, forall_eq, rowL_len, rowsI_len, rowsI_getD]
  simp only [p30 w e t k ss hl, true_and]
  simp only [e30, List.getD_cons_zero, List.getD_cons_succ, gi_int, gl_sl, Bool.not_eq_true', Bool.not_eq_false', beq_iff_eq, beq_eq_false_iff_ne, decide_eq_true_eq, decide_eq_false_iff_not]
  refine ⟨fun h => ?_, fun h => ⟨fun h1 => ?_, fun h1 => ?_⟩⟩
  · rw [csV, if_pos h]
  · rw [csV, if_neg (fun q => q h), if_pos (by omega)]
  have h1 : o.length = l.length := by omega
  have h8 := allE_ok h
  obtain ⟨P, hPe⟩ : ∃ P, allP w e t k ss l = P := ⟨_, rfl⟩
  have hPl : P.length = l.length := by rw [← hPe, allP_len]
  have hP : okG P := by rw [← hPe]; exact (allP_ok w e t k ss l).2
  have hcs : csV w e t k ss l o = if vO l.length o then [.int .i64 (lenL (allP w e t k ss l) (-1 :: o)), .int .i64 0] else [.int .i64 0, .int .i64 3] := by
    unfold csV
    rw [if_neg (by rw [h]; simp), if_neg (by omega)]
  rw [hcs, if_pos h, hPe]
  simp only [rowM_len]
  refine LoopP4.run (x1 := 0) (x2 := []) (x3 := []) (x4 := 0) (fun n : Nat => lenL P (-1 :: o.take n)) (fun n => mpL (o.take n)) (fun n => mpL (lastP P (o.take n))) (fun n => (n : Int)) (fun n => n ≤ o.length ∧ vO l.length (o.take n)) (fun n => o.length - n) 0 ⟨Nat.zero_le _, by simp [vO]⟩ rfl rfl rfl rfl ?_
  rintro n ⟨hn, hv⟩ K hK
  simp only [toNat_cast, mlook_mpL]
  refine ⟨fun q => ⟨by omega, ?_⟩, fun q => ?_⟩
  · have hlt : n < o.length := by omega
    obtain ⟨z, hz⟩ : ∃ z, o.getD n 0 = z := ⟨_, rfl⟩
    simp only [hz]
    have hbad : (if (if z < 0 then true else decide ((P.length : Int) ≤ z)) = true then true else decide (z ∈ o.take n)) = decide (z < 0 ∨ (P.length : Int) ≤ z ∨ z ∈ o.take n) := by
      by_cases a1 : z < 0 <;> by_cases a2 : (P.length : Int) ≤ z <;> by_cases a3 : z ∈ o.take n <;> simp [a1, a2, a3]
    rw [hbad]
    refine ⟨fun q2 => ?_, fun q2 => ?_⟩
    · have q2 := of_decide_eq_true q2
      rw [if_neg fun hvo => ?_]
      have hv2 := vO_take hvo (n + 1)
      rw [take_s hlt, hz] at hv2
      have r1 := hv2.1 z (by simp)
      have r2 := (List.nodup_append.1 hv2.2).2.2
      rcases q2 with q2 | q2 | q2
      · omega
      · omega
      · exact r2 z q2 z (by simp) rfl
    · have q2 := of_decide_eq_false q2
      have hzr : 0 ≤ z ∧ z < P.length := by omega
      have hzn : z ∉ o.take n := fun q3 => q2 (.inr (.inr q3))
      have hcell : (cellAt (rowM P) z.toNat 0).gm = mpL (P.getD z.toNat []) := rowM_cell P z.toNat (by omega)
      have hPz := okG_at hP z.toNat
      rw [hcell]
      refine ⟨by omega, by omega, p28 _ (by omega), ?_⟩
      rw [e28, List.getD_cons_zero, gi_int, mput_new hzn]
      have hb := vO_bd hP (o := o.take n) fun y hy => by have := hv.1 y hy; omega
      have hmv := mvN_le (lastP P (o.take n)) (P.getD z.toNat [])
      have htl : (o.take n).length = n := by simp; omega
      rw [htl] at hb
      refine hK _ _ _ _ (n + 1) ⟨hlt, ?_⟩ (by omega) ?_ ?_ ?_ (wrap_up rfl (by omega))
      · rw [take_s hlt, hz]
        refine ⟨fun y hy => ?_, ?_⟩
        · rcases List.mem_append.1 hy with hy | hy
          · exact hv.1 y hy
          · simp only [List.mem_singleton] at hy; omega
        · rw [List.nodup_append]
          exact ⟨hv.2, by simp, fun a ha b hb => by simp only [List.mem_singleton] at hb; rintro rfl; exact hzn (hb ▸ ha)⟩
      · rw [lenL_up hlt fun y hy => (hv.1 y hy).1, hz, wrap_in (by omega) (by omega)]
      · rw [take_s hlt, hz]
      · rw [lastP_up hlt, hz]
  · have : n = o.length := by omega
    subst this
    rw [List.take_length] at hv ⊢
    rw [if_pos hv]
end Go.Proofs.Ytjmgphobpgajbaa.V
